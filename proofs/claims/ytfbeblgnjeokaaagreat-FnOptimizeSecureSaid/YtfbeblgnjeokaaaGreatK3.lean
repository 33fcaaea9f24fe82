/- Part 3: functions on the way, plain laws. Conditions: as said. -/
import Derived.Laws.Small
import Derived.WideLaws
import Derived.Great.BuildSlice
import Derived.Test.YtfbeblgnjeokaaaGreatK1
set_option maxRecDepth 100000
set_option maxHeartbeats 16000000
set_option linter.unusedVariables false
set_option linter.unusedSimpArgs false
open Bool renaming true → V, false → U
open Option renaming some → Z, none → I
open Decidable renaming decide → Y
open Bool renaming and_eq_true → Aj, not_eq_true' → Cn, or_eq_true → Gg
open Inhabited renaming default → K
open List renaming all_eq_true → Bt, append_assoc → Fj, append_nil → II, cons_append → IR, eq_nil_of_length_eq_zero → FM, getD_eq_getElem?_getD → Bu, getElem?_append_left → Fb, getElem?_append_right → Ip, getElem?_cons_zero → Fp, getElem?_eq_getElem → CF, getElem?_eq_none → FO, getElem?_eq_some_iff → EA, getElem?_replicate → LH, getElem_mem → EL, length_append → Az, length_cons → BK, length_replicate → FX, map_cons → Fa, mem_append → DQ, mem_cons → Eb, mem_cons_of_mem → Ep, mem_cons_self → EI, mem_of_getElem? → FF, mem_range → GW, mem_singleton → Dw, not_mem_nil → It, range → DA, replicate → Ac
open Nat renaming add_zero → Fx, le_refl → BR, le_trans → DO, lt_of_lt_of_le → IM, lt_or_ge → Du, mul_le_mul_right → Iq, succ_mul → Ft, zero_add → GS, zero_le → Di
open Option renaming isSome_iff_exists → MD, map_eq_some_iff → Ds
open True renaming intro → Ay

open List renaming length → J
open Go renaming wp_seq → B, wp_ret → AT, wp_skip → Aq, wp_block → BN
namespace Go.Proofs.YtfbeblgnjeokaaaGreat
open Go Go.RowKit
inductive Bv where
 |C (b:Nat) (cs:List Value)
 |L (e:TypeId) (sz:Nat) (v:Value) (n:Nat) (R:List Value->World->(Nat->Prop)->Prop)
 |G (R:World->(Nat->Prop)->Prop)
 |own (S:Nat->Prop) (R:World->Prop)
def Bv.none:Bv:=.G λ_ _=>True
def Bv.blk:Bv->Nat->Prop
 |.C b _=>λg=>g=b
 |.L _ _ v _ _=>λg=>v.ownBlock=Z g
 |.G _=>λ_=>False
 |.own S _=>S
def EY{a:Type}(c:Nat->Prop)(L:a->Bv)(b:Nat):Prop:=c b/\∀i,¬(L i).blk b
def Bv.holds(w:World)(d:Nat->Prop):Bv->Prop
 |.C b f=>Bl w b f
 |.L e g v n R=>(∀a,IQ (R a))/\∃a,w.ownsRow 0 e g v n a/\R a w d
 |.G R=>IQ R/\R w d
 |.own S R=>(∀w c,R w->(∀b,S b->b<w.heap.size->c.heap[b]? =w.heap[b]?)->R c)/\R w/\∀b,S b->b<w.heap.size
theorem o0:IQ λ_ _=>True:=λ_ _ _ _ _ h=>h
theorem Bv.none_holds(w)(a):Bv.none.holds w a:=⟨o0,Ay⟩
structure BV{ι:Type}(φ ψ:Nat->Prop)(w0 w:World)(L:ι->Bv):Prop where
 kept:Dl ψ w0 w
 fresh:∀b,w0.heap.size<=b->φ b
 env:Zo ψ w0
 holds:∀i,(L i).holds w (EY φ L)
 dis:∀i j g,i≠j->(L i).blk g->¬(L j).blk g
 ge:∀i b,(L i).blk b->w0.heap.size<=b\/¬ψ b
 ph:∀i b,(L i).blk b->φ b
section
variable{ι κ:Type}{φ ψ:Nat->Prop}{w0 w w':World}{L:ι->Bv}
theorem Bv.lt{r:Bv}(h:r.holds w φ){b}(a:r.blk b):b<w.heap.size:=by
 cases r with
 |C g d=>cases a;exact Bl.lt h
 |L e i v n R=>obtain⟨_,f,c,_⟩:=h;exact(World.ownsRow.lt c b a).2
 |G R=>cases a
 |own S R=>exact h.2.2 b a
theorem BV.lt(M:BV φ ψ w0 w L){i:ι}{b}(a:(L i).blk b):b<w.heap.size:=Bv.lt (M.holds i) a
theorem BV.size(M:BV φ ψ w0 w L):w0.heap.size<=w.heap.size:=M.kept.size
theorem BV.frFresh(M:BV φ ψ w0 w L):∀b,w.heap.size<=b->EY φ L b:=λb a=>⟨M.fresh b (DO M.size a),λi c=>by have:=M.lt c;omega⟩
theorem Bv.keep{a}{r:Bv}(h:r.holds w φ)(d:Ew φ a w w')(c:∀b,r.blk b->w'.heap[b]? =w.heap[b]?):r.holds w' a:=by
 cases r with
 |C b o=>obtain⟨T,h⟩:=h;exact⟨T,(c b rfl).trans h⟩
 |L e p v n R=>
  obtain⟨k,j,i,l⟩:=h;exact⟨k,j,(CH.same (lo:=0) (hi:=w.heap.size) ⟨i,λg m=>(World.ownsRow.lt i g m).2⟩ c).1,k j _ _ _ _ d l⟩
 |G R=>exact⟨h.1,h.1 _ _ _ _ d h.2⟩
 |own S R=>exact⟨h.1,h.1 _ _ h.2.1 λb f _=>c b f,λb f=>IM (h.2.2 b f) d.1⟩
theorem BV.call(M:BV φ ψ w0 w L)(b:Below w.heap.size w w'):BV φ ψ w0 w' L:=
 ⟨M.kept.trans (Dl.of_below b λ_ h _=>h),M.fresh,M.env,λi=>Bv.keep (M.holds i) (Ew.below b) λg a=>b.block g (M.lt a),M.dis,M.ge,M.ph⟩
theorem BV.drew(M:BV φ ψ w0 w L):BV φ ψ w0 w.drew L:=M.call (Below.refl _ _).drew
theorem BV.put(M:BV φ ψ w0 w L)(i:ι){p:ι->Bv}(m:∀j,j≠i->p j=L j)(l:Dl (λb=>¬(L i).blk b) w w')(h:(p i).holds w' (EY φ p))(q:∀g,(p i).blk g->(L i).blk g\/w.heap.size<=g):BV φ ψ w0 w' p:=by
 have s:∀b,b<w.heap.size->EY φ L b->EY φ p b:=λb n o=>⟨o.1,λj a=>by
  by_cases e:j=i
  ·subst e
   rcases q b a with h|h
   ·exact o.2 _ h
   omega
  rw[m j e]at a;exact o.2 _ a⟩
 refine⟨⟨l.os.trans M.kept.os,l.tape.trans M.kept.tape,l.output.trans M.kept.output,DO M.size l.size,λb n v=>(l.block b (IM n M.size) λt=>?_).trans (M.kept.block b n v)⟩,M.fresh,M.env,λj=>?_,λj k g f a d=>?_,λj b a=>?_,λj b a=>?_⟩
 ·rcases M.ge i b t with c|c
  ·omega
  exact c v
 ·by_cases e:j=i
  ·subst e;exact h
  rw[m j e];exact Bv.keep (M.holds j) ⟨l.size,λb n o=>⟨s b n o,l.block b n (o.2 i)⟩⟩ λg r=>l.block g (M.lt r) λt=>M.dis j i g e r t
 ·by_cases e:j=i
  ·subst e
   rw[m k (λe=>f e.symm)]at d
   rcases q g a with c|c
   ·exact M.dis _ _ g f c d
   have:=M.lt d;omega
  rw[m j e]at a;by_cases u:k=i
  ·subst u
   rcases q g d with c|c
   ·exact M.dis _ _ g f a c
   have:=M.lt a;omega
  rw[m k u]at d;exact M.dis _ _ g f a d
 ·by_cases e:j=i
  ·subst e
   rcases q b a with c|c
   ·exact M.ge _ b c
   exact .inl (DO M.size c)
  rw[m j e]at a;exact M.ge _ b a
 by_cases e:j=i
 ·subst e
  rcases q b a with c|c
  ·exact M.ph _ b c
  exact M.fresh b (DO M.size c)
 rw[m j e]at a;exact M.ph _ b a
theorem BV.map(M:BV φ ψ w0 w L){d:κ->Bv}(g:κ->Option ι)(t:∀k f i,g k=Z i->g f=Z i->k=f)(h:∀k,(∃i,g k=Z i/\d k=L i)\/d k=Bv.none):BV φ ψ w0 w d:=by
 have c:∀k b,(d k).blk b->∃i,g k=Z i/\d k=L i:=λk b c=>by
  rcases h k with h|h
  ·exact h
  rw[h]at c;exact c.elim
 have q:∀b,EY φ L b->EY φ d b:=λb m=>⟨m.1,λk o=>by
  obtain⟨i,_,e⟩:=c k b o
  rw[e]at o;exact m.2 i o⟩
 refine⟨M.kept,M.fresh,M.env,λk=>?_,λk f b n a p=>?_,λk b a=>?_,λk b a=>?_⟩
 ·rcases h k with⟨i,_,e⟩|e
  ·rw[e];exact Bv.keep (M.holds i) (Ew.mono λb _ m=>q b m) λ_ _=>rfl
  rw[e];exact Bv.none_holds _ _
 ·obtain⟨i,r,l⟩:=c k b a
  obtain⟨j,s,u⟩:=c f b p;rw[l]at a;rw[u]at p;exact M.dis i j b (λe=>n (t k f i r (e▸s))) a p
 ·obtain⟨i,_,l⟩:=c k b a
  rw[l]at a;exact M.ge i b a
 obtain⟨i,_,l⟩:=c k b a;rw[l]at a;exact M.ph i b a
theorem BV.start(a:∀b,w0.heap.size<=b->φ b)(c:Zo ψ w0):BV φ ψ w0 w0 (λ_:ι=>Bv.none):=⟨Dl.refl _ _,a,c,λ_=>Bv.none_holds _ _,λ_ _ _ _ h=>h.elim,λ_ _ h=>h.elim,λ_ _ h=>h.elim⟩
theorem BV.below(M:BV φ ψ w0 w L)(a:∀b,b<w0.heap.size->ψ b):Below w0.heap.size w0 w:=M.kept.below a
end
inductive D where
 |C (l:List Int)
 |bools (l:List Bool)
 |bytes (l:List UInt8)
 |strs (l:List ByteArray)
 |N (l:List AV)
 |E (l:List (Int×Int))
 |L (l:List (List Int))
 |brows (l:List (List Bool))
 |P (l:List AF)
 |M (l:List AG)
inductive X where
 |v (x:Value)
 |sl (d:D)
def D.len:D->Nat
 |.C l=>J l
 |.bools l=>J l
 |.bytes l=>J l
 |.strs l=>J l
 |.N l=>J l
 |.E l=>J l
 |.L l=>J l
 |.brows l=>J l
 |.P l=>J l
 |.M l=>J l
def D.sz:D->Nat
 |.N _=>5
 |.E _=>2
 |.P _=>3
 |.M _=>11
 |_=>1
instance : Inhabited AF := ⟨⟨0, 0, []⟩⟩
instance : Inhabited AG := ⟨⟨0, 0, K, K, 0, [], []⟩⟩
instance : Inhabited AV := ⟨⟨0, 0, 0, 0, 0⟩⟩
def RJ(e:AF):List X:=[.v (.int .i64 e.t),.v (.int .i64 e.v),.sl (.P e.k)]
def Sh(s:AG):List X:=[.v (.int .i64 s.t),.v (.int .i64 s.g),.v (.int .i64 s.i.t),.v (.int .i64 s.i.v),.sl (.P s.i.k),.v (.int .i64 s.v.t),.v (.int .i64 s.v.v),.sl (.P s.v.k),.v (.int .i64 s.count),.sl (.M s.b),.sl (.M s.e)]
def Sm(x:AV):List X:=[.v (.int .i64 x.op),.v (.int .i64 x.a),.v (.int .i64 x.b),.v (.int .i64 x.c),.v (.int .i64 x.d)]
def SH(x:Int×Int):List X:=[.v (.int .i64 x.1),.v (.int .i64 x.2)]
def D.elem:D->Nat->List X
 |.C l,i=>[.v (.int .i64 (l.getD i 0))]
 |.bools l,i=>[.v (.bool (l.getD i U))]
 |.bytes l,i=>[.v (.int .u8 ((l.getD i 0).toNat:Int))]
 |.strs l,i=>[.v (.string (l.getD i ByteArray.empty))]
 |.N l,i=>Sm (l.getD i K)
 |.E l,i=>SH (l.getD i (0,0))
 |.L l,i=>[.sl (.C (l.getD i []))]
 |.brows l,i=>[.sl (.bools (l.getD i []))]
 |.P l,i=>RJ (l.getD i K)
 |.M l,i=>Sh (l.getD i K)
theorem D.elem_len(d:D)(i):(d.elem i).length=d.sz:=by cases d<;>rfl
theorem DU{a:Type}{l:List a}{i}{d:a}(h:i<J l):l.getD i d=l[i]:=by simp[h]
def EK(w:World)(a:Nat->Prop):D->Value->Prop
 |.C l,v=>CV w a v (J l) 1 (BW l)
 |.bools l,v=>CV w a v (J l) 1 (l.map Value.bool)
 |.bytes l,v=>CV w a v (J l) 1 (l.map λb=>Value.int .u8 (b.toNat:Int))
 |.strs l,v=>CV w a v (J l) 1 (l.map Value.string)
 |.N l,v=>CV w a v (J l) 5 (BW (De l))
 |.E l,v=>CV w a v (J l) 2 (l.flatMap λx=>[Value.int .i64 x.1,.int .i64 x.2])
 |.L l,v=>∃c:List Value,CV w a v (J l) 1 c/\∀i (_:i<J l),∃u,c[i]? =Z u/\CV w a u l[i].length 1 (BW l[i])
 |.brows l,v=>∃c:List Value,CV w a v (J l) 1 c/\∀i (_:i<J l),∃u,c[i]? =Z u/\CV w a u l[i].length 1 (l[i].map Value.bool)
 |.P l,v=>EG w a v l
 |.M l,v=>JG w a v l
def IH(w:World)(a:Nat->Prop):X->Value->Prop
 |.v x,u=>u=x
 |.sl d,u=>EK w a d u
theorem EK.nice(d)(v):IQ λw k=>EK w k d v:=by
 intro w n k m c h;cases d with
 |L l=>obtain⟨j,e,g⟩:=h;exact⟨j,CV.nice _ _ _ _ _ _ _ _ c e,λi f=>let⟨u,a,b⟩:=g i f;⟨u,a,CV.nice _ _ _ _ _ _ _ _ c b⟩⟩
 |brows l=>obtain⟨j,e,g⟩:=h;exact⟨j,CV.nice _ _ _ _ _ _ _ _ c e,λi f=>let⟨u,a,b⟩:=g i f;⟨u,a,CV.nice _ _ _ _ _ _ _ _ c b⟩⟩
 |P l=>exact EG.nice v l _ _ _ _ c h
 |M l=>exact JG.nice v l _ _ _ _ c h
 |_=>exact CV.nice _ _ _ _ _ _ _ _ c h
theorem IH.nice(x)(v):IQ λw a=>IH w a x v:=by
 intro w e a c b h;cases x with
 |v x=>exact h
 |sl d=>exact EK.nice d v _ _ _ _ b h
def Ci(w:World)(a:Nat->Prop)(d:D)(b:List Value):Prop:=
 ∀i,i<d.len->∀j x,(d.elem i)[j]? =Z x->∃u,b[i*d.sz+j]? =Z u/\IH w a x u
theorem Ci.nice(d)(e):IQ λw c=>Ci w c d e:=λ_ _ _ _ g h i f j x k=>let⟨u,a,b⟩:=h i f j x k;⟨u,a,IH.nice x u _ _ _ _ g b⟩
theorem Ox{b:Type}(l:List b)(f:b->Value)(a:b){i j}{x}(d:i<J l)(c:([X.v (f (l.getD i a))]:List X)[j]? =Z x):∃y,x=.v y/\(l.map f)[i*1+j]? =Z y:=by
 cases j with
 |zero=>simp at c;subst c;exact⟨_,rfl,by simp[d]⟩
 |succ j=>simp at c
theorem fW(l){i j}{x}(b:i<J l)(a:(Sm (l.getD i K))[j]? =Z x):∃y,x=.v y/\(BW (De l))[i*5+j]? =Z y:=by
 obtain⟨d,Bs,c,CZ,f⟩:=oD l i b;have e:l.getD i K=l[i]:=by simp[b]
 rw[e]at a;unfold Sm at a
 match j,a with
 |0,a=>simp at a;subst a;exact⟨_,rfl,by simp[BW,d]⟩
 |1,a=>simp at a;subst a;exact⟨_,rfl,by simp[BW,Bs]⟩
 |2,a=>simp at a;subst a;exact⟨_,rfl,by simp[BW,c]⟩
 |3,a=>simp at a;subst a;exact⟨_,rfl,by simp[BW,CZ]⟩
 |4,a=>simp at a;subst a;exact⟨_,rfl,by simp[BW,f]⟩
 |j+5,a=>simp at a
theorem cz(l):∀{i j:Nat} {x:X},i<J l->(SH (l.getD i (0,0)))[j]? =Z x->∃y,x=.v y/\(l.flatMap λx=>[Value.int .i64 x.1,.int .i64 x.2])[i*2+j]? =Z y:=by
 induction l with
 |nil=>intro i j x c;simp at c
 | cons a r f =>
  intro i j x c b;cases i with
  |zero=>
   unfold SH at b
   match j,b with
   |0,b=>simp at b;subst b;exact⟨_,rfl,At⟩
   |1,b=>simp at b;subst b;exact⟨_,rfl,At⟩
   |j+2,b=>simp at b
  |succ i=>
   obtain⟨y,d,e⟩:=f (i:=i) (j:=j) (x:=x) (by simpa using c) (by simpa using b)
   refine⟨y,d,?_⟩;rw[show(i+1)*2+j=i*2+j+2 by omega]
   simpa using e
theorem CV.cellAt{w}{f}{v}{n e}{g}(h:CV w f v n e g):∃a c,v=.slice a n c/\n<=c/\c<=maxLen/\
  ∀i,i<n->∃b d,a=Z ⟨b,d,I⟩/\b<w.heap.size/\f b/\∀j u,g[i*e+j]? =Z u->w.cell? ⟨b,d+(i*e+j),I⟩=Z u:=by
 obtain⟨_,a,c,rfl,k,o,m⟩:=h;refine⟨a,c,rfl,k,o,λi s=>?_⟩
 obtain⟨b,d,rfl,l,r,p⟩:=m O;exact⟨b,d,rfl,l,r,λj u q=>p _ u q⟩
theorem G6{w}{b}{e}{c}(h:JZ w b e c){j:Nat}{x}(a:(RJ e)[j]? =Z x):∃u,c[j]? =Z u/\IH w b x u:=by
 obtain⟨f,rfl,d⟩:=(JZ.iff e c).1 h;unfold RJ at a
 match j,a with
 |0,a=>simp at a;subst a;exact⟨_,rfl,rfl⟩
 |1,a=>simp at a;subst a;exact⟨_,rfl,rfl⟩
 |2,a=>simp at a;subst a;exact⟨_,rfl,d⟩
 |j+3,a=>simp at a
theorem xd{w}{b}{s}{c}(h:JM w b s c){j:Nat}{x}(a:(Sh s)[j]? =Z x):∃u,c[j]? =Z u/\IH w b x u:=by
 obtain⟨k,i,Ck,Cy,rfl,d,g,e,f⟩:=(JM.iff s c).1 h;unfold Sh at a
 match j,a with
 |0,a=>simp at a;subst a;exact⟨_,rfl,rfl⟩
 |1,a=>simp at a;subst a;exact⟨_,rfl,rfl⟩
 |2,a=>simp at a;subst a;exact⟨_,rfl,rfl⟩
 |3,a=>simp at a;subst a;exact⟨_,rfl,rfl⟩
 |4,a=>simp at a;subst a;exact⟨_,rfl,d⟩
 |5,a=>simp at a;subst a;exact⟨_,rfl,rfl⟩
 |6,a=>simp at a;subst a;exact⟨_,rfl,rfl⟩
 |7,a=>simp at a;subst a;exact⟨_,rfl,g⟩
 |8,a=>simp at a;subst a;exact⟨_,rfl,rfl⟩
 |9,a=>simp at a;subst a;exact⟨_,rfl,e⟩
 |10,a=>simp at a;subst a;exact⟨_,rfl,f⟩
 |j+11,a=>simp at a
theorem Ci.P{w}{f}{a}{c}(h:GE w f a c):Ci w f (.P a) c:=by
 intro i q j x g
 have p:j<3:=by
  have:=(EA.1 g).1;rw[D.elem_len]at this;exact this
 have b:i<J a:=q;obtain⟨k,r,o,s,l⟩:=h.at i b
 have e:(RJ a[i])[j]? =Z x:=by
  rw[<-DU (d:=K) b];exact g
 obtain⟨u,n,m⟩:=G6 ((JZ.iff a[i] [.int .i64 a[i].t,.int .i64 a[i].v,k]).2 ⟨k,rfl,l⟩) e;refine⟨u,?_,m⟩;rw[<-n];show c[i*3+j]? =_
 match j,p with
 |0,_=>simpa using r
 |1,_=>simpa using o
 |2,_=>simpa using s
theorem Ci.M{w}{e}{b}{f}(h:FZ w e b f):Ci w e (.M b) f:=by
 intro i p j x g
 have o:j<11:=by
  have:=(EA.1 g).1;rw[D.elem_len]at this;exact this
 have a:i<J b:=p;obtain⟨q,r,k,l⟩:=h.at i a
 have c:(Sh b[i])[j]? =Z x:=by
  rw[<-DU (d:=K) a];exact g
 obtain⟨u,n,m⟩:=xd k c;exact⟨u,(l j o).trans n,m⟩
theorem EK.split{w}{o}{d}{v}(h:EK w o d v):∃m,CV w o v d.len d.sz m/\Ci w o d m:=by
 cases d with
 |C l=>exact⟨_,h,λi f j x c=>let⟨y,e,a⟩:=Ox l (Value.int .i64) 0 f c;⟨y,a,by subst e;rfl⟩⟩
 |bools l=>exact⟨_,h,λi f j x c=>let⟨y,e,a⟩:=Ox l Value.bool U f c;⟨y,a,by subst e;rfl⟩⟩
 |bytes l=>exact⟨_,h,λi f j x c=>let⟨y,e,a⟩:=Ox l (λb=>Value.int .u8 (b.toNat:Int)) 0 f c;⟨y,a,by subst e;rfl⟩⟩
 |strs l=>exact⟨_,h,λi f j x c=>let⟨y,e,a⟩:=Ox l Value.string ByteArray.empty f c;⟨y,a,by subst e;rfl⟩⟩
 |N l=>exact⟨_,h,λi f j x c=>let⟨y,e,a⟩:=fW l f c;⟨y,a,by subst e;rfl⟩⟩
 |E l=>exact⟨_,h,λi f j x c=>let⟨y,e,a⟩:=cz l f c;⟨y,a,by subst e;rfl⟩⟩
 | L l =>
  obtain⟨p,a,g⟩:=h;refine⟨p,a,λi f j x c=>?_⟩
  cases j with
  |succ j=>simp[D.elem]at c
  |zero=>
   obtain⟨u,e,n⟩:=g i f;simp only[D.elem,Fp,Option.some.injEq]at c;subst c;have k:i<J l:=f;exact⟨u,by simpa[D.sz]using e,by show CV _ _ _ _ _ _;rw[DU k];exact n⟩
 | brows l =>
  obtain⟨p,a,g⟩:=h;refine⟨p,a,λi f j x c=>?_⟩
  cases j with
  |succ j=>simp[D.elem]at c
  |zero=>
   obtain⟨u,e,n⟩:=g i f;simp only[D.elem,Fp,Option.some.injEq]at c;subst c;have k:i<J l:=f;exact⟨u,by simpa[D.sz]using e,by show CV _ _ _ _ _ _;rw[DU k];exact n⟩
 |P l=>obtain⟨m,a,g⟩:=h;exact⟨m,a,Ci.P g⟩
 |M l=>obtain⟨m,a,g⟩:=h;exact⟨m,a,Ci.M g⟩
theorem EK.open{w}{g}{d}{v}(h:EK w g d v):∃a c,v=.slice a d.len c/\d.len<=c/\c<=maxLen/\
  ∀i,i<d.len->∃b f,a=Z ⟨b,f,I⟩/\b<w.heap.size/\g b/\∀j x,(d.elem i)[j]? =Z x->∃u,w.cell? ⟨b,f+(i*d.sz+j),I⟩=Z u/\IH w g x u:=by
 obtain⟨C,l,o⟩:=h.split;obtain⟨a,c,rfl,n,y,t⟩:=l.cellAt;refine⟨a,c,rfl,n,y,λi k=>?_⟩
 obtain⟨b,f,e,m,z,q⟩:=t i k;exact⟨b,f,e,m,z,λj x p=>let⟨u,s,r⟩:=o i k j x p;⟨u,q j u s,r⟩⟩
theorem A7{c a:List Value}(d:J c=J a)(h:∀i,i<J a->c[i]? =a[i]?):c=a:=by
 apply List.ext_getElem?;intro i;rcases Du i (J a)with b|b
 ·exact h i b
 rw[FO O,FO b]
theorem Ci.drop{w}{c}{a}{r}{d}(h:Ci w c (.P (a::r)) d):Ci w c (.P r) (d.drop 3):=by
 intro i k j x g;have b:i<J r:=k;obtain⟨u,e,f⟩:=h (i+1) (by show i+1<(a::r).length;simp;exact b) j x (by simpa[D.elem]using g)
 refine⟨u,?_,f⟩;rw[List.getElem?_drop, <-e];congr 1;simp only[D.sz];omega
theorem Ci.dropS{w}{c}{a}{r}{d}(h:Ci w c (.M (a::r)) d):Ci w c (.M r) (d.drop 11):=by
 intro i k j x g;have b:i<J r:=k;obtain⟨u,e,f⟩:=h (i+1) (by show i+1<(a::r).length;simp;exact b) j x (by simpa[D.elem]using g)
 refine⟨u,?_,f⟩;rw[List.getElem?_drop, <-e];congr 1;simp only[D.sz];omega
theorem yV{d}{j i h:Value}(g:d[0]? =Z j)(e:d[1]? =Z i)(f:d[2]? =Z h):d=[j,i,h]++d.drop 3:=by
 match d,g,e,f with
 |a::b::c::r,g,e,f=>simp at g e f;simp[g,e,f]
theorem za{a}{q n u t p v s o w x c:Value}(l:a[0]? =Z q)(d:a[1]? =Z n)(h:a[2]? =Z u)(f:a[3]? =Z t)(m:a[4]? =Z p)(i:a[5]? =Z v)(j:a[6]? =Z s)(e:a[7]? =Z o)(g:a[8]? =Z w)(k:a[9]? =Z x)(b:a[10]? =Z c):a=[q,n,u,t,p,v,s,o,w,x,c]++a.drop 11:=by
 match a,l,d,h,f,m,i,j,e,g,k,b with
 |C::z::H::L::D::E::G::N::F::M::y::r,l,d,h,f,m,i,j,e,g,k,b=>
  simp at l d h f m i j e g k b;simp[l,d,h,f,m,i,j,e,g,k,b]
theorem GE.of{w}{f}:∀{d:List AF} {b:List Value},J b=J d*3->Ci w f (.P d) b->GE w f d b
 |[],b,c,_=>by simp at c;exact c
 |a::r,b,c,h=>by
  have e:0<(D.P (a::r)).len:=by show 0<(a::r).length;simp
  obtain⟨n,j,rfl⟩:=h 0 e 0 (.v (.int .i64 a.t)) rfl;obtain⟨m,Bs,rfl⟩:=h 0 e 1 (.v (.int .i64 a.v)) rfl;obtain⟨l,i,g⟩:=h 0 e 2 (.sl (.P a.k)) rfl;refine⟨_,b.drop 3,yV (by simpa using j) (by simpa using Bs) (by simpa using i),(JZ.iff a _).2 ⟨l,rfl,g⟩,GE.of (by simp at c ⊢;omega) h.drop⟩
theorem FZ.of{w}{n}:∀{j:List AG} {d:List Value},J d=J j*11->Ci w n (.M j) d->FZ w n j d
 |[],d,f,_=>by simp at f;exact f
 |a::r,d,f,h=>by
  have c:0<(D.M (a::r)).len:=by show 0<(a::r).length;simp
  obtain⟨H,u,rfl⟩:=h 0 c 0 (.v (.int .i64 a.t)) rfl;obtain⟨G,Bs,rfl⟩:=h 0 c 1 (.v (.int .i64 a.g)) rfl;obtain⟨N,s,rfl⟩:=h 0 c 2 (.v (.int .i64 a.i.t)) rfl;obtain⟨M,CZ,rfl⟩:=h 0 c 3 (.v (.int .i64 a.i.v)) rfl;obtain⟨p,x,z⟩:=h 0 c 4 (.sl (.P a.i.k)) rfl;obtain⟨P,gd,rfl⟩:=h 0 c 5 (.v (.int .i64 a.v.t)) rfl;obtain⟨L,y,rfl⟩:=h 0 c 6 (.v (.int .i64 a.v.v)) rfl;obtain⟨o,E,q⟩:=h 0 c 7 (.sl (.P a.v.k)) rfl;obtain⟨Q,ec,rfl⟩:=h 0 c 8 (.v (.int .i64 a.count)) rfl;obtain⟨C,kT,F⟩:=h 0 c 9 (.sl (.M a.b)) rfl;obtain⟨l,fZ,m⟩:=h 0 c 10 (.sl (.M a.e)) rfl;refine⟨_,d.drop 11,za (by simpa using u) (by simpa using Bs) (by simpa using s) (by simpa using CZ) (by simpa using x) (by simpa using gd) (by simpa using y) (by simpa using E) (by simpa using ec) (by simpa using kT) (by simpa using fZ),(JM.iff a _).2 ⟨p,o,C,l,rfl,z,q,F,m⟩,FZ.of (by simp at f ⊢;omega) h.dropS⟩
theorem Tf{w}{q}{d}{b a}(s:J b=d.len*d.sz)(f:J a=d.len*d.sz)(h:Ci w q d b)
  (t:∀i j x,i<d.len->(d.elem i)[j]? =Z x->∃y,x=.v y/\a[i*d.sz+j]? =Z y):b=a:=by
 refine A7 (s.trans f.symm) λp n=>?_
 have r:0<d.sz:=by cases d<;>simp[D.sz]
 have m:p/d.sz<d.len:=by rw[f]at n;exact Nat.div_lt_of_lt_mul (by rw[Nat.mul_comm];exact n)
 have l:p%d.sz<(d.elem (p/d.sz)).length:=by rw[D.elem_len];exact Nat.mod_lt _ r
 obtain⟨y,o,k⟩:=t _ _ _ m (CF l);obtain⟨u,c,g⟩:=h _ m _ _ (CF l);rw[o]at g;have e:p/d.sz*d.sz+p%d.sz=p:=by rw[Nat.mul_comm];exact Nat.div_add_mod p d.sz
 rw[e]at k c;rw[c,k];exact congrArg Z g
theorem xH(l:List (Int×Int)):(l.flatMap λx=>[Value.int .i64 x.1,.int .i64 x.2]).length=J l*2:=by
 induction l with
 |nil=>rfl
 |cons a r b=>rw[List.flatMap_cons,Az,b];simp;omega
theorem EK.make{w}{n}{d}{v}{xs}(a:CV w n v d.len d.sz xs)(h:Ci w n d xs):EK w n d v:=by
 have f:=a.1;cases d with
 |C l=>rw[Tf f (by simp[D.len,D.sz]) h λi j x c e=>Ox l (Value.int .i64) 0 c e]at a;exact a
 |bools l=>rw[Tf f (by simp[D.len,D.sz]) h λi j x c e=>Ox l Value.bool U c e]at a;exact a
 |bytes l=>rw[Tf f (by simp[D.len,D.sz]) h λi j x c e=>Ox l (λb=>Value.int .u8 (b.toNat:Int)) 0 c e]at a;exact a
 |strs l=>rw[Tf f (by simp[D.len,D.sz]) h λi j x c e=>Ox l Value.string ByteArray.empty c e]at a;exact a
 |N l=>rw[Tf f (by simp[D.len,D.sz,BW,R2]) h λi j x c e=>fW l c e]at a;exact a
 |E l=>rw[Tf f (xH l) h λi j x c e=>cz l c e]at a;exact a
 |L l=>
  refine⟨xs,a,λi c=>?_⟩
  obtain⟨u,m,o⟩:=h i c 0 _ rfl;exact⟨u,by simpa[D.sz]using m,by have k:CV _ _ _ _ _ _:=o;rw[DU c]at k;exact k⟩
 |brows l=>
  refine⟨xs,a,λi c=>?_⟩
  obtain⟨u,m,o⟩:=h i c 0 _ rfl;exact⟨u,by simpa[D.sz]using m,by have k:CV _ _ _ _ _ _:=o;rw[DU c]at k;exact k⟩
 |P l=>exact⟨xs,a,GE.of f h⟩
 |M l=>exact⟨xs,a,FZ.of f h⟩
def CW(a b:Nat):Bool:=a==b
def Hc(w:World):List (List Int)->(Nat->Prop)->List Value->Prop
 |[],_,a=>a=[]
 |r::e,S,a=>∃(v:Value) (d:List Value) (c:Nat->Prop),a=v::d/\w.ownsRow 0 3 1 v (J r) (BW r)/\(∀g,v.ownBlock=Z g->S g/\¬c g)/\(∀b,c b->S b)/\Hc w e c d
def Ga(w:World):D->(Nat->Prop)->List Value->Prop
 |.P l,S,a=>Dz w l S a
 |.M l,S,a=>Dp w l S a
 |.L l,S,a=>Hc w l S a
 |_,_,_=>False
def OO:D->Option TypeId
 |.P _=>Z 96
 |.M _=>Z 98
 |.L _=>Z 23
 |_=>I
def FR(w:World)(S:Nat->Prop)(d:D)(v:Value):Prop:=
 ∃(e:TypeId) (c:List Value) (a:Nat->Prop),OO d=Z e/\w.ownsRow 0 e d.sz v d.len c/\(∀g,v.ownBlock=Z g->S g/\¬a g)/\(∀b,a b->S b)/\Ga w d a c
section
variable{w w':World}{S S' T φ:Nat->Prop}
theorem Hc.same:∀{l:List (List Int)} {S:Nat->Prop} {c:List Value},Hc w l S c->(∀b,S b->b<w.heap.size->w'.heap[b]? =w.heap[b]?)->Hc w' l S c
 |[],_,_,h,_=>h
 |_::_,_,_,⟨v,m,n,j,e,a,d,o⟩,f=>⟨v,m,n,j,NJ e λg i=>f g (a g i).1 (World.ownsRow.lt e g i).2,a,d,Hc.same o λb k=>f b (d b k)⟩
theorem Hc.mono:∀{l:List (List Int)} {S S':Nat->Prop} {c:List Value},Hc w l S c->(∀b,S b->S' b)->Hc w l S' c
 |[],_,_,_,h,_=>h
 |_::_,_,_,_,⟨v,j,o,f,k,a,n,m⟩,e=>⟨v,j,o,f,k,λg d=>⟨e g (a g d).1,(a g d).2⟩,λb i=>e b (n b i),m⟩
theorem Hc.app:∀{a b:List (List Int)} {S T S':Nat->Prop} {i e:List Value},Hc w a S i->Hc w b T e->(∀x,S x->S' x/\¬T x)->(∀x,T x->S' x)->Hc w (a++b) S' (i++e)
 |[],b,_,_,_,i,e,h,k,_,f=>by rw[show i=[]from h];exact k.mono f
 | _ :: _, b, _, T, _, _, e, ⟨v, o, p, q, r, j, m, n⟩, k, d, f =>
  ⟨v,o++e,λx=>p x\/T x,by rw[q];rfl,r,λg l=>⟨(d g (j g l).1).1,λh=>h.elim (j g l).2 (d g (j g l).1).2⟩,λx c=>c.elim (λh=>(d x (m x h)).1) (f x),
   Hc.app n k (λx c=>⟨.inl c,(d x (m x c)).2⟩) λx c=>.inr c⟩
theorem Dz.app:∀{a b:List AF} {S T S':Nat->Prop} {i g:List Value},Dz w a S i->Dz w b T g->(∀x,S x->S' x/\¬T x)->(∀x,T x->S' x)->Dz w (a++b) S' (i++g)
 |[],b,_,_,_,i,g,h,k,_,f=>by rw[show i=[]from h];exact k.mono f
 | _ :: _, b, _, T, _, _, g, ⟨c, o, m, q, r, j, l, p, n⟩, k, d, f =>
  ⟨c,o++g,m,λx=>q x\/T x,by rw[r,Fj],λx e=>⟨(d x (j x e).1).1,λh=>h.elim (j x e).2 (d x (j x e).1).2⟩,λx e=>e.elim (λh=>(d x (l x h)).1) (f x),p,
   Dz.app n k (λx e=>⟨.inl e,(d x (l x e)).2⟩) λx e=>.inr e⟩
theorem Dp.app:∀{a b:List AG} {S T S':Nat->Prop} {i g:List Value},Dp w a S i->Dp w b T g->(∀x,S x->S' x/\¬T x)->(∀x,T x->S' x)->Dp w (a++b) S' (i++g)
 |[],b,_,_,_,i,g,h,k,_,f=>by rw[show i=[]from h];exact k.mono f
 | _ :: _, b, _, T, _, _, g, ⟨c, o, m, q, r, j, l, p, n⟩, k, d, f =>
  ⟨c,o++g,m,λx=>q x\/T x,by rw[r,Fj],λx e=>⟨(d x (j x e).1).1,λh=>h.elim (j x e).2 (d x (j x e).1).2⟩,λx e=>e.elim (λh=>(d x (l x h)).1) (f x),p,
   Dp.app n k (λx e=>⟨.inl e,(d x (l x e)).2⟩) λx e=>.inr e⟩
theorem Ga.same{d}{c}(h:Ga w d S c)(a:∀b,S b->b<w.heap.size->w'.heap[b]? =w.heap[b]?):Ga w' d S c:=by
 cases d<;>simp only[Ga]at h ⊢
 ·exact h.same a
 ·exact Dz.same _ _ _ h a
 exact Dp.same _ _ _ h a
theorem Ga.mono{d}{c}(h:Ga w d S c)(a:∀b,S b->S' b):Ga w d S' c:=by
 cases d<;>simp only[Ga]at h ⊢
 ·exact h.mono a
 ·exact Dz.mono h a
 exact Dp.mono h a
theorem Ga.cut{d}{j}(h:Ga w d S j):Ga w d (λb=>S b/\b<w.heap.size) j:=by
 cases d<;>simp only[Ga]at h ⊢
 ·rename_i l
  have:∀{l:List (List Int)} {S:Nat->Prop} {j:List Value},Hc w l S j->Hc w l (λb=>S b/\b<w.heap.size) j:=by
   intro l;induction l with
   |nil=>intro S j h;exact h
   |cons r C z=>
    rintro S j ⟨v,o,t,n,k,m,q,p⟩;exact⟨v,o,λb=>t b/\b<w.heap.size,n,k,λg f=>⟨⟨(m g f).1,(World.ownsRow.lt k g f).2⟩,λh=>(m g f).2 h.1⟩,λb a=>⟨q b a.1,a.2⟩,z p⟩
  exact this h
 ·exact cutEs _ _ _ h
 exact cutSs _ _ _ h
where
 cutE:∀(e:AF) (S:Nat->Prop) (x:List Value),GI w e S x->GI w e (λb=>S b/\b<w.heap.size) x
  |⟨_,_,u⟩,S,_,⟨v,j,S',n,k,m,q,p⟩=>⟨v,j,λb=>S' b/\b<w.heap.size,n,k,λg f=>⟨⟨(m g f).1,(World.ownsRow.lt k g f).2⟩,λh=>(m g f).2 h.1⟩,λb a=>⟨q b a.1,a.2⟩,cutEs u S' j p⟩
 cutEs:∀(u:List AF) (S:Nat->Prop) (j:List Value),Dz w u S j->Dz w u (λb=>S b/\b<w.heap.size) j
  |[],_,_,h=>h
  |e::r,S,_,⟨c,o,y,t,n,k,m,q,p⟩=>⟨c,o,λb=>y b/\b<w.heap.size,λb=>t b/\b<w.heap.size,n,λb a=>⟨⟨(k b a.1).1,a.2⟩,λh=>(k b a.1).2 h.1⟩,λb a=>⟨m b a.1,a.2⟩,cutE e y c q,cutEs r t o p⟩
 cutS:∀(s:AG) (S:Nat->Prop) (x:List Value),Gi w s S x->Gi w s (λb=>S b/\b<w.heap.size) x
  | ⟨_, _, i, v, _, b, e⟩, S, _, ⟨iv, vv, Ck, Cy, xb, xe, Si, Sv, Sb, Se, Sb', Se', n, ⟨d1, d2, d3, d4⟩, ⟨xi, Ti, i1, i2, i3, i4⟩, ⟨xv, Tv, v1, v2, v3, v4⟩, ⟨b1, b2, b3, b4⟩, ⟨e1, e2, e3, e4⟩⟩ =>
   ⟨iv,vv,Ck,Cy,xb,xe,λb=>Si b/\b<w.heap.size,λb=>Sv b/\b<w.heap.size,λb=>Sb b/\b<w.heap.size,λb=>Se b/\b<w.heap.size,λb=>Sb' b/\b<w.heap.size,λb=>Se' b/\b<w.heap.size,n,
    ⟨λb a=>⟨⟨(d1 b a.1).1,a.2⟩,λh=>(d1 b a.1).2.1 h.1,λh=>(d1 b a.1).2.2.1 h.1,λh=>(d1 b a.1).2.2.2 h.1⟩,λb a=>⟨⟨(d2 b a.1).1,a.2⟩,λh=>(d2 b a.1).2.1 h.1,λh=>(d2 b a.1).2.2 h.1⟩,λb a=>⟨⟨(d3 b a.1).1,a.2⟩,λh=>(d3 b a.1).2 h.1⟩,λb a=>⟨d4 b a.1,a.2⟩⟩,
    ⟨xi,λb=>Ti b/\b<w.heap.size,i1,λg f=>⟨⟨(i2 g f).1,(World.ownsRow.lt i1 g f).2⟩,λh=>(i2 g f).2 h.1⟩,λb a=>⟨i3 b a.1,a.2⟩,cutEs _ _ _ i4⟩,
    ⟨xv,λb=>Tv b/\b<w.heap.size,v1,λg f=>⟨⟨(v2 g f).1,(World.ownsRow.lt v1 g f).2⟩,λh=>(v2 g f).2 h.1⟩,λb a=>⟨v3 b a.1,a.2⟩,cutEs _ _ _ v4⟩,
    ⟨b1,λg f=>⟨⟨(b2 g f).1,(World.ownsRow.lt b1 g f).2⟩,λh=>(b2 g f).2 h.1⟩,λb a=>⟨b3 b a.1,a.2⟩,cutSs _ _ _ b4⟩,
    ⟨e1,λg f=>⟨⟨(e2 g f).1,(World.ownsRow.lt e1 g f).2⟩,λh=>(e2 g f).2 h.1⟩,λb a=>⟨e3 b a.1,a.2⟩,cutSs _ _ _ e4⟩⟩
 cutSs:∀(u:List AG) (S:Nat->Prop) (j:List Value),Dp w u S j->Dp w u (λb=>S b/\b<w.heap.size) j
  |[],_,_,h=>h
  |e::r,S,_,⟨c,o,y,t,n,k,m,q,p⟩=>⟨c,o,λb=>y b/\b<w.heap.size,λb=>t b/\b<w.heap.size,n,λb a=>⟨⟨(k b a.1).1,a.2⟩,λh=>(k b a.1).2 h.1⟩,λb a=>⟨m b a.1,a.2⟩,cutS e y c q,cutSs r t o p⟩
theorem FR.same{d}{v}(h:FR w S d v)(j:∀b,S b->b<w.heap.size->w'.heap[b]? =w.heap[b]?):FR w' S d v:=by
 obtain⟨e,l,S',m,a,f,c,n⟩:=h;exact⟨e,l,S',m,NJ a λg i=>j g (f g i).1 (World.ownsRow.lt a g i).2,f,c,n.same λb k=>j b (c b k)⟩
theorem FR.mono{d}{v}(h:FR w S d v)(f:∀b,S b->S' b):FR w S' d v:=by
 obtain⟨e,l,T,m,i,a,k,n⟩:=h;exact⟨e,l,T,m,i,λg c=>⟨f g (a g c).1,(a g c).2⟩,λb j=>f b (k b j),n⟩
theorem FR.cut{d}{v}(h:FR w S d v):FR w (λb=>S b/\b<w.heap.size) d v:=by
 obtain⟨e,l,T,m,c,i,j,k⟩:=h;exact⟨e,l,λb=>T b/\b<w.heap.size,m,c,λg a=>⟨⟨(i g a).1,(World.ownsRow.lt c g a).2⟩,λh=>(i g a).2 h.1⟩,λb f=>⟨j b f.1,f.2⟩,k.cut⟩
theorem FR.k{l}{v}:FR w S (.P l) v↔HH w v l S:=
 ⟨λ⟨_,d,S',f,a,e,b,c⟩=>⟨d,S',by cases f;exact a,e,b,c⟩,λ⟨d,S',a,e,b,c⟩=>⟨_,d,S',rfl,a,e,b,c⟩⟩
theorem FR.block{l}{v}:FR w S (.M l) v↔JQ w v l S:=
 ⟨λ⟨_,d,S',f,a,e,b,c⟩=>⟨d,S',by cases f;exact a,e,b,c⟩,λ⟨d,S',a,e,b,c⟩=>⟨_,d,S',rfl,a,e,b,c⟩⟩
theorem Hc.at:∀{l:List (List Int)} {S:Nat->Prop} {d:List Value},Hc w l S d->J d=J l/\∀i (_:i<J l),∃u,d[i]? =Z u/\w.ownsRow 0 3 1 u l[i].length (BW l[i])/\∀g,u.ownBlock=Z g->S g
 |[],_,d,h=>⟨by rw[show d=[]from h];rfl,λi f=>by simp at f⟩
 | r :: x, S, _, ⟨v, s, t, j, n, k, p, o⟩ => by
  subst j;obtain⟨m,q⟩:=Hc.at o;refine⟨by simp[m],λi f=>?_⟩
  cases i with
  |zero=>exact⟨v,rfl,n,λg e=>(k g e).1⟩
  |succ i=>
   obtain⟨u,a,b,c⟩:=q i (by simpa using f)
   exact⟨u,by simpa using a,b,λg e=>p g (c g e)⟩
def SK(w:World)(l:List (List Int))(S:Nat->Prop)(a:List Value)(h:Nat):Prop:=
 J a=J l/\(∀i (_:i<J l),∃u,a[i]? =Z u/\(i≠h->w.ownsRow 0 3 1 u l[i].length (BW l[i]))/\∀g,u.ownBlock=Z g->S g)/\
 ∀(i j:Nat) (u v:Value),i<j->a[i]? =Z u->a[j]? =Z v->∀g,u.ownBlock=Z g->v.ownBlock≠Z g
theorem Hc.idx:∀{l:List (List Int)} {S:Nat->Prop} {m:List Value},Hc w l S m->∀h,SK w l S m h
  |[],_,m,h,_=>⟨by rw[show m=[]from h];rfl,λi o=>by simp at o,λi j u v _ k=>by rw[show m=[]from h]at k;simp at k⟩
  | r :: q, S, _, ⟨v, x, N, G, H, s, E, z⟩, h => by
    subst G;obtain⟨y,t,C⟩:=Hc.idx z (J q);refine⟨by simp[y],λi o=>?_,λi j u u' F k d g f=>?_⟩
    · cases i with
      |zero=>exact⟨v,rfl,λ_=>H,λg f=>(s g f).1⟩
      | succ i =>
        have p:i<J q:=by simpa using o
        obtain⟨u,a,b,c⟩:=t i p;exact⟨u,by simpa using a,λ_=>b O,λg f=>E g (c g f)⟩
    cases j with
    |zero=>omega
    | succ j =>
      have L:j<J q:=by have:=(EA.1 d).1;simp at this;omega
      cases i with
      | zero =>
        simp at k;subst k;obtain⟨u2,a,_,c⟩:=t j L
        have e : u2 = u' := by have : x[j]? = Z u' := by simpa using d
                               rw[a]at this;exact Option.some.inj this
        subst e;exact λM=>(s g f).2 (c g M)
      |succ i=>exact C i j u u' O (by simpa using k) (by simpa using d) g f
theorem SK.Q:∀{l:List (List Int)} {S:Nat->Prop} {k:List Value},SK w l S k (J l)->Hc w l S k
 |[],_,k,⟨h,_⟩=>List.length_eq_zero_iff.1 h
 |r::s,S,[],⟨h,_⟩=>by simp at h
 |r::s,S,v::p,⟨x,n,m⟩=>by
  obtain⟨u,e,f,y⟩:=n 0 At;simp at e;subst e;refine⟨v,p,λb=>S b/\v.ownBlock≠Z b,rfl,by simpa using f At,λg a=>⟨y g a,λq=>q.2 a⟩,λb o=>o.1,SK.Q ⟨by simpa using x,λi C=>?_,λi j u E t z c g a=>m (i+1) (j+1) u E O (by simpa using z) (by simpa using c) g a⟩⟩
  obtain⟨u,e,f,d⟩:=n (i+1) (by simpa using C)
  exact⟨u,by simpa using e,λD=>by simpa using f (by simpa using D),λg a=>⟨d g a,λc=>m 0 (i+1) v u O rfl e g c a⟩⟩
def On(w:World)(S:Nat->Prop)(i:Nat)(l:List (List Int))(u v:Value):Prop:=
 ∃(a:List Value) (S':Nat->Prop),w.ownsRow 0 23 1 v (J l) a/\(∀g,v.ownBlock=Z g->S g/\¬S' g)/\(∀b,S' b->S b)/\a[i]? =Z u/\i<J l/\SK w l S' a i
theorem On.same{i}{l}{u v}(h:On w S i l u v)(r:∀b,(S b/\u.ownBlock≠Z b)->b<w.heap.size->w'.heap[b]? =w.heap[b]?):On w' S i l u v:=by
 obtain⟨t,S',o,k,p,e,q,x,s,m⟩:=h
 have z:∀g,u.ownBlock=Z g->S' g:=by
  obtain⟨D,a,_,c⟩:=s i q;rw[e]at a;cases a;exact c
 refine⟨t,S',NJ o λg d=>r g ⟨(k g d).1,λf=>(k g d).2 (z g f)⟩ (World.ownsRow.lt o g d).2,k,p,e,q,x,λj C=>?_,m⟩
 obtain⟨y,a,b,c⟩:=s j C;refine⟨y,a,λn=>NJ (b n) λg d=>r g ⟨p g (c g d),λf=>?_⟩ (World.ownsRow.lt (b n) g d).2,c⟩
 rcases Nat.lt_or_gt_of_ne n with h|h
 ·exact m j i y u h a e g d f
 exact m i j u y h e a g f d
theorem FR.takeRow{i}{l}{v}(h:FR w S (.L l) v)(f:i<J l):∃u a d,On w S i l u v/\w.ownsRow 0 3 1 u (l.getD i []).length (BW (l.getD i []))/\(∀g,u.ownBlock=Z g->S g)/\v=.slice (Z a) (J l) d/\w.cell? ⟨a.block,a.off+i,I⟩=Z u/\a.spot=none:=by
 obtain⟨e,o,S',r,j,p,m,y⟩:=h;cases r
 have k:=Hc.idx y;obtain⟨u,a,b,c⟩:=(k (J l)).2.1 i f;obtain⟨_,z,d,s,_,_,x⟩:=Tm j;obtain⟨C,n,e,_,t⟩:=x (by simp only[D.len];omega)
 subst e;refine⟨u,_,d,⟨o,S',j,p,m,a,f,k i⟩,?_,λg q=>m g (c g q),s,t i u a,rfl⟩
 have:=b O;simpa[Bu,f]using this
theorem On.back{i}{l}{u v}{r}(h:On w S i l u v)(k:w.ownsRow 0 3 1 u (J r) (BW r)):FR w S (.L (l.set i r)) v:=by
 obtain⟨p,S',o,q,f,n,x,g,t,m⟩:=h;refine⟨_,p,S',rfl,by simpa[D.len,D.sz]using o,q,f,SK.Q ⟨by simpa using g,λj s=>?_,m⟩⟩
 have d:j<J l:=by simpa using s
 obtain⟨y,a,b,c⟩:=t j d;refine⟨y,a,λ_=>?_,c⟩
 by_cases e:j=i
 ·subst e
  rw[n]at a;cases a;simpa using k
 have:=b e;rw[List.getElem_set_ne (λh=>e h.symm)];exact this
theorem FR.read{d}{v}(h:FR w S d v)(j:∀b,S b->φ b):EK w φ d v:=by
 cases d with
 |P l=>exact HH.read (FR.k.1 h) j
 |M l=>exact JQ.read (FR.block.1 h) j
 |L l=>
  obtain⟨e,p,S',f,n,q,o,s⟩:=h;obtain⟨x,t⟩:=Hc.at s;exact⟨p,Jo n λg m=>j g (q g m).1,λi r=>let⟨u,a,b,c⟩:=t i r;⟨u,a,Jo b λg m=>j g (o g (c g m))⟩⟩
 |C l=>obtain⟨_,_,_,f,_⟩:=h;cases f
 |bools l=>obtain⟨_,_,_,f,_⟩:=h;cases f
 |bytes l=>obtain⟨_,_,_,f,_⟩:=h;cases f
 |strs l=>obtain⟨_,_,_,f,_⟩:=h;cases f
 |N l=>obtain⟨_,_,_,f,_⟩:=h;cases f
 |E l=>obtain⟨_,_,_,f,_⟩:=h;cases f
 |brows l=>obtain⟨_,_,_,f,_⟩:=h;cases f
def Fe:Value->Value
 |.tuple a=>a.getD 0 undef
 |v=>v
def Fi:Value->Nat->Prop
 |.tuple a=>λb=>Value.int .u64 (b:Int)∈a.toList.drop 1
 |_=>λ_=>False
theorem fp(v)(S:Nat->Prop)(n)(h:∀b,S b->b<n):∃x,Fe x=v/\∀b,Fi x b↔S b:=by
 classical
 refine⟨.tuple (v::((DA n).filter λb=>Y (S b)).map λb:Nat=>Value.int .u64 (b:Int)).toArray,rfl,λb=>?_⟩
 simp only[Fi,List.drop_succ_cons,List.drop_zero,List.mem_map,List.mem_filter,GW,decide_eq_true_eq];constructor
 ·rintro⟨a,⟨_,d⟩,e⟩
  simp only[Value.int.injEq,true_and]at e;have:a=b:=O;subst this;exact d
 intro c;exact⟨b,⟨h b c,c⟩,rfl⟩
end
inductive AA where
 |v (x:Value)
 |P (id off:Nat)
 |ea (id i j sz:Nat)
 |N (id:Nat)
 |agg (l:List AA)
 |T (l:List AA)
 |fn (f:Nat) (l:List AA)
 |bm (f:Nat) (l:List AA)
 |F (id:Nat)
abbrev AK:AA:=.v (.slice I 0 0)
def KF:Value->Nat
 |.pointer (Z a)=>a.block
 |_=>0
def Ml(n:Nat):Value->Addr
 |.slice (Z a) _ _=>⟨a.block,a.off+n,I⟩
 |_=>⟨0,n,I⟩
mutual
def AA.val(ρ:Nat->Value):AA->Value
 |.v x=>x
 |.P id off=>.pointer (Z ⟨KF (ρ id),off,I⟩)
 |.ea id i j sz=>.pointer (Z (Ml (i*sz+j) (Fe (ρ id))))
 |.N id=>ρ id
 |.agg l=>.agg (AA.vals ρ l).toArray
 |.T l=>.tuple (AA.vals ρ l).toArray
 |.fn f l=>.func (.func f) #[] (AA.vals ρ l).toArray
 |.bm f l=>.func (.func f) (AA.vals ρ l).toArray #[]
 |.F id=>Fe (ρ id)
def AA.vals(ρ:Nat->Value):List AA->List Value
 |[]=>[]
 |x::r=>x.val ρ::AA.vals ρ r
end
mutual
def AA.ids:AA->List Nat
 |.v _=>[]
 |.P id _=>[id]
 |.ea id _ _ _=>[id]
 |.N id=>[id]
 |.agg l=>AA.idsL l
 |.T l=>AA.idsL l
 |.fn _ l=>AA.idsL l
 |.bm _ l=>AA.idsL l
 |.F id=>[id]
def AA.idsL:List AA->List Nat
 |[]=>[]
 |x::r=>x.ids++AA.idsL r
end
mutual
def AA.ren(σ:Nat->Nat):AA->AA
 |.v x=>.v x
 |.P id off=>.P (σ id) off
 |.ea id i j sz=>.ea (σ id) i j sz
 |.N id=>.N (σ id)
 |.agg l=>.agg (AA.renL σ l)
 |.T l=>.T (AA.renL σ l)
 |.fn f l=>.fn f (AA.renL σ l)
 |.bm f l=>.bm f (AA.renL σ l)
 |.F id=>.F (σ id)
def AA.renL(σ:Nat->Nat):List AA->List AA
 |[]=>[]
 |x::r=>x.ren σ::AA.renL σ r
end
mutual
theorem AA.val_congr{ρ ρ':Nat->Value}:∀(x:AA),(∀id∈x.ids,ρ' id=ρ id)->x.val ρ'=x.val ρ
 |.v _,_=>rfl
 |.P id _,h=>by simp only[AA.val];rw[h id (by simp[AA.ids])]
 |.ea id _ _ _,h=>by simp only[AA.val];rw[h id (by simp[AA.ids])]
 |.N id,h=>h id (by simp[AA.ids])
 |.agg l,h=>by simp only[AA.val];rw[AA.vals_congr l h]
 |.T l,h=>by simp only[AA.val];rw[AA.vals_congr l h]
 |.fn _ l,h=>by simp only[AA.val];rw[AA.vals_congr l h]
 |.bm _ l,h=>by simp only[AA.val];rw[AA.vals_congr l h]
 |.F id,h=>by simp only[AA.val];rw[h id (by simp[AA.ids])]
theorem AA.vals_congr{ρ ρ':Nat->Value}:∀(l:List AA),(∀id∈AA.idsL l,ρ' id=ρ id)->AA.vals ρ' l=AA.vals ρ l
 |[],_=>rfl
 |x::r,h=>by
  simp only[AA.vals];rw[AA.val_congr x fun id hi=>h id (by simp[AA.idsL,hi]),AA.vals_congr r fun id hi=>h id (by simp[AA.idsL,hi])]
end
mutual
theorem AA.val_ren{ρ:Nat->Value}{σ:Nat->Nat}:∀(x:AA),(x.ren σ).val ρ=x.val fun i=>ρ (σ i)
 |.v _=>rfl
 |.P _ _=>rfl
 |.ea _ _ _ _=>rfl
 |.N _=>rfl
 |.agg l=>by simp only[AA.ren,AA.val];rw[AA.vals_ren l]
 |.T l=>by simp only[AA.ren,AA.val];rw[AA.vals_ren l]
 |.fn _ l=>by simp only[AA.ren,AA.val];rw[AA.vals_ren l]
 |.bm _ l=>by simp only[AA.ren,AA.val];rw[AA.vals_ren l]
 |.F _=>rfl
theorem AA.vals_ren{ρ:Nat->Value}{σ:Nat->Nat}:∀(l:List AA),AA.vals ρ (AA.renL σ l)=AA.vals (fun i=>ρ (σ i)) l
 |[]=>rfl
 |x::r=>by simp only[AA.renL,AA.vals];rw[AA.val_ren x,AA.vals_ren r]
end
theorem AA.vals_length(b)(l):(AA.vals b l).length=J l:=by
 induction l with
 |nil=>rfl
 |cons x r a=>simp[AA.vals,a]
theorem AA.vals_get(a):∀(l:List AA) (i:Nat),(AA.vals a l)[i]? =(l[i]?).map (AA.val a)
 |[],i=>by simp[AA.vals]
 |x::r,0=>by simp[AA.vals]
 |x::r,i+1=>by simp[AA.vals,AA.vals_get a r i]
theorem AA.vals_append(a)(l m):AA.vals a (l++m)=AA.vals a l++AA.vals a m:=by
 induction l with
 |nil=>rfl
 |cons x r b=>simp[AA.vals,b]
theorem AA.vals_take(a):∀l n,AA.vals a (l.take n)=(AA.vals a l).take n
 |[],n=>by simp[AA.vals]
 |x::r,0=>by simp[AA.vals]
 |x::r,n+1=>by simp[AA.vals,AA.vals_take a r n]
theorem AA.vals_drop(a):∀l n,AA.vals a (l.drop n)=(AA.vals a l).drop n
 |[],n=>by simp[AA.vals]
 |x::r,0=>by simp[AA.vals]
 |x::r,n+1=>by simp[AA.vals,AA.vals_drop a r n]
inductive AI where
 |none
 |E
 |C (cs:List AA)
 |G (d:D)
 |L (e:TypeId) (d:D)
 |Q (d:D)
 |kept (e:Option TypeId) (d:D)
 |H (k i:Nat) (l:List (List Int))
 |err
def AI.ids:AI->List Nat
 |.C a=>AA.idsL a
 |.H k _ _=>[k]
 |_=>[]
def AI.ren(a:Nat->Nat):AI->AI
 |.C b=>.C (AA.renL a b)
 |.H k i l=>.H (a k) i l
 |x=>x
def AI.res(a:Nat->Value)(id:Nat):AI->Bv
 |.none=>Bv.none
 |.E=>Bv.none
 |.C g=>.C (KF (a id)) (AA.vals a g)
 |.G d=>.G λw c=>EK w c d (a id)
 |.L e d=>.L e d.sz (a id) d.len λf w c=>Ci w c d f
 |.Q d=>.own (Fi (a id)) λw=>FR w (Fi (a id)) d (Fe (a id))
 |(.kept (Option.some e) d)=>.L e d.sz (a id) d.len λf w c=>Ci w c d f
 |(.kept Option.none d)=>.own (Fi (a id)) λw=>FR w (Fi (a id)) d (Fe (a id))
 |.err=>.G λ_ _=>∃t p,a id=.iface t p
 |.H k i l=>.own (λb=>Fi (a id) b/\(a k).ownBlock≠Z b) λw=>On w (Fi (a id)) i l (a k) (Fe (a id))
def AI.unK:AI->AI
 |(.kept (Option.some e) d)=>.L e d
 |(.kept Option.none d)=>.Q d
 |x=>x
theorem AI.res_unK{a}{i}(x:AI):x.unK.res a i=x.res a i:=by
 cases x with
 |kept e d=>cases e<;>rfl
 |_=>rfl
theorem AI.ids_unK(x:AI):x.unK.ids=x.ids:=by
 cases x with
 |kept e d=>cases e<;>rfl
 |_=>rfl
theorem AI.unK_ren(a)(x:AI):(x.ren a).unK=x.unK.ren a:=by
 cases x with
 |kept e d=>cases e<;>rfl
 |_=>rfl
theorem AI.res_congr{f c}{id}(x:AI)(h:∀i∈x.ids,c i=f i)(b:x=.none\/x=.E\/c id=f id):x.res c id=x.res f id:=by
 cases x with
 |none=>rfl
 |E=>rfl
 |C g=>rcases b with a|a|a<;>first|cases a|(simp only[AI.res];rw[a,AA.vals_congr g h])
 |G d=>rcases b with a|a|a<;>first|cases a|(simp only[AI.res];rw[a])
 |L e d=>rcases b with a|a|a<;>first|cases a|(simp only[AI.res];rw[a])
 |Q d=>rcases b with a|a|a<;>first|cases a|(simp only[AI.res];rw[a])
 |kept e d=>cases e<;>(rcases b with a|a|a<;>first|cases a|(simp only[AI.res];rw[a]))
 |err=>rcases b with a|a|a<;>first|cases a|(simp only[AI.res];rw[a])
 |H k i l=>rcases b with a|a|a<;>first|cases a|(simp only[AI.res];rw[a,h k (by simp[AI.ids])])
theorem AI.res_ren{b}{a}{i}(x:AI):(x.ren a).res b (a i)=x.res (λi=>b (a i)) i:=by
 cases x with
 |C c=>simp only[AI.ren,AI.res];rw[AA.vals_ren]
 |kept e d=>cases e<;>rfl
 |_=>rfl
def An(l:List AI):Nat->AI:=λi=>l.getD i .none
def Am{a:Type}(F:a->Bv)(b:Nat->Value)(S:Nat->AI):a ⊕ Nat->Bv
 |.inl i=>F i
 |.inr j=>(S j).res b j
def Bq(S:Nat->AI):List (Nat×AI)->Nat->AI
 |[],i=>S i
 |(j,x)::r,i=>if i=j then x else Bq S r i
theorem br{S}{l}{i}(h:i∉l.map (·.1)):Bq S l i=S i:=by
 induction l with
 |nil=>rfl
 |cons p r a=>
  simp only[Fa,Eb,not_or]at h;simp only[Bq,AO h.1];exact a h.2
def FV(S:Nat->AI)(b:Nat->Value)(mk:List Nat):Prop:=∀a:Nat->Value,(∀id,id∉mk->a id=b id)->∀j,(S j).res a j=(S j).res b j
def FK(mk:List Nat)(b a:Nat->Value):Prop:=∀id,id∉mk->a id=b id
theorem FK.refl(mk)(a):FK mk a a:=λ_ _=>rfl
section
variable{P:Program}{ι:Type}{φ ψ:Nat->Prop}{w0 w w':World}{F:ι->Bv}{ρ:Nat->Value}{S:Nat->AI}
def FG(P:Program)(o:Oper)(e:Operand->Value)(w:World)(c:Value->World->Prop):Prop:=
 (∃v w',(execOp e o).run P w=.ok (.value v) w'/\c v w')\/(∃w',(execOp e o).run P w=.ok .skip w'/\c undef w')\/
  ∃f a w',(execOp e o).run P w=.ok (.enter f a) w'/\Calls P f a w' λx b=>∃v,x=.returned v/\c v b
theorem FG.mono{o}{e}{g i}(h:FG P o e w g)(d:∀v w',g v w'->i v w'):FG P o e w i:=by
 rcases h with⟨v,w',a,b⟩|⟨w',a,b⟩|⟨f,c,w',a,b⟩
 ·exact .inl ⟨v,w',a,d _ _ b⟩
 ·exact .inr (.inl ⟨w',a,d _ _ b⟩)
 exact .inr (.inr ⟨f,c,w',a,b.mono λx k ⟨v,j,l⟩=>⟨v,j,d _ _ l⟩⟩)
theorem FG.wp{c}{Q}{b}{o}{a}(i:Region.wanted o (yielded c a.tmps)=V)(h:FG P o a.eval w λv w'=>wpList P c Q b (a.put o.dst v) w'):wpList P c Q (o::b) a w:=by
 unfold wpList;rw[AZ i];refine .inl ?_;unfold Oper.wp;rcases h with⟨v,w',d,e⟩|⟨w',d,e⟩|⟨f,g,w',d,e⟩
 ·rw[d];exact e
 ·rw[d];exact e
 rw[d];refine Calls.mono e λx k ⟨v,j,l⟩=>?_
 subst j;exact l
theorem sx{c}{Q}{b}{o}{a}(d:Region.wanted o (yielded c a.tmps)=U)(h:wpList P c Q b (a.put o.dst undef) w):wpList P c Q (o::b) a w:=by
 unfold wpList;rw[AO (by simp[d])];exact h
theorem BV.one(M:BV φ ψ w0 w (Am F ρ S))(id)(x)(mk){a}(o:FV S ρ mk)(l:FK mk ρ a)
  (n:Dl (λb=>¬((S id).res ρ id).blk b) w w') (m:∀g,(x.res a id).blk g->((S id).res ρ id).blk g\/w.heap.size<=g)
  (h:(x.res a id).holds w' (EY φ (Am F a (Bq S [(id,x)])))):BV φ ψ w0 w' (Am F a (Bq S [(id,x)])):=by
 have e:Am F ρ S=Am F a S:=by
  funext k;cases k with
  |inl i=>rfl
  |inr j=>exact(o a l j).symm
 have f:Am F a (Bq S [(id,x)]) (.inr id)=x.res a id:=by simp[Am,Bq]
 refine BV.put M (.inr id) (λk d=>?_) n (by rw[f];exact h) (λg c=>m g (by rw[f]at c;exact c))
 rw[e];cases k with
 |inl i=>rfl
 |inr j=>
  have:j≠id:=λe=>d (by rw[e])
  simp[Am,Bq,this]
theorem Dl.any{ψ}{w w'}(b:Below w.heap.size w w'):Dl ψ w w':=Dl.of_below b λ_ h _=>h
def QU:List X->Nat->List AA
 |[],_=>[]
 |.v x::r,id=>.v x::QU r id
 |.sl _::r,id=>.N id::QU r (id+1)
def He:List X->Nat->List (Nat×AI)
 |[],_=>[]
 |.v _::r,id=>He r id
 |.sl d::r,id=>(id,.G d)::He r (id+1)
theorem dc:∀{xs:List X} {id j:Nat},j∈(He xs id).map (·.1)->id<=j
 |[],_,_,h=>by simp[He]at h
 |.v _::r,id,j,h=>dc (xs:=r) h
 |.sl d::r,id,j,h=>by
  simp only[He,Fa,Eb]at h;rcases h with rfl|h
  ·exact BR _
  have:=dc h;omega
def Kx(w:World)(φ:Nat->Prop):List X->List Value->Prop
 |[],[]=>True
 |x::r,u::s=>IH w φ x u/\Kx w φ r s
 |_,_=>False
theorem Kx.agr{φ a}(c:Ew φ a w w'):∀{b:List X} {Ad:List Value},Kx w φ b Ad->Kx w' a b Ad
 |[],[],_=>trivial
 |_::_,_::_,h=>⟨IH.nice _ _ _ _ _ _ c h.1,Kx.agr c h.2⟩
 |[],_::_,h=>h
 |_::_,[],h=>h
theorem I4(S)(id)(x)(l)(h:id∉l.map (·.1)):Bq (Bq S [(id,x)]) l=Bq S ((id,x)::l):=by
 funext i;by_cases e:i=id
 ·subst e;rw[br h];simp[Bq]
 have:∀(l:List (Nat×AI)),Bq (Bq S [(id,x)]) l i=Bq S l i:=by
  intro l;induction l with
  |nil=>simp[Bq,e]
  |cons p r a=>simp only[Bq];split;rfl;exact a
 rw[this];simp[Bq,e]
theorem BV.dats:∀(p:List X) (Ad:List Value) (id:Nat) {ρ:Nat->Value} {S:Nat->AI},BV φ ψ w0 w (Am F ρ S)->Kx w (EY φ (Am F ρ S)) p Ad->(∀j∈(He p id).map (·.1),S j=.none)->FV S ρ ((He p id).map (·.1))->
  ∃a,FK ((He p id).map (·.1)) ρ a/\BV φ ψ w0 w (Am F a (Bq S (He p id)))/\Ad=AA.vals a (QU p id)
 |[],[],_,ρ,S,M,_,_,_=>⟨ρ,FK.refl _ _,M,rfl⟩
 |.v x::r,u::s,id,ρ,S,M,h,z,q=>by
  obtain⟨a,y,n,C⟩:=BV.dats r s id M h.2 z q;exact⟨a,y,n,by simp only[QU,AA.vals];rw[<-C,show u=x from h.1];rfl⟩
 | .sl d :: r, u :: s, id, ρ, S, M, h, z, q => by
  have Q:S id=.none:=z id (by simp[He])
  have c:id∉(He r (id+1)).map (·.1):=λh=>by have:=dc h;omega
  have t:FK ((He (.sl d::r) id).map (·.1)) ρ (λj=>if j=id then u else ρ j):=λj o=>by
   have:j≠id:=λe=>o (by simp[He,e])
   simp[this]
  have f:∀b,EY φ (Am F ρ S) b->EY φ (Am F (λj=>if j=id then u else ρ j) (Bq S [(id,.G d)])) b:=λb m=>⟨m.1,λk l=>by
   cases k with
   |inl i=>exact m.2 (.inl i) l
   |inr j=>
    by_cases e:j=id
    ·subst e;simp only[Am,Bq,if_true]at l;exact l.elim
    simp only[Am,Bq,AO e]at l;rw[q _ t j]at l
    exact m.2 (.inr j) l⟩
  have N:=M.one id (.G d) _ q t (Dl.refl _ _) (λg L=>L.elim) (by
   refine⟨EK.nice _ _,?_⟩;simp only[if_true]
   exact EK.nice _ _ _ _ _ _ (Ew.mono λb _ m=>f b m) h.1)
  obtain⟨a,y,n,C⟩:=BV.dats r s (id+1) N (Kx.agr (Ew.mono λb _ m=>f b m) h.2)
   (λj o=>by
    have:j≠id:=λe=>c (e▸o)
    simp only[Bq,AO this];exact z j (by simp only[He,Fa,Eb];exact .inr o))
   (λE n j=>by
    have H:FK ((He (.sl d::r) id).map (·.1)) ρ E:=λk l=>by
     have G:k≠id:=λe=>l (by simp[He,e])
     rw[n k λD=>l (by simp only[He,Fa,Eb];exact .inr D)];simp[G]
    by_cases e:j=id
    ·subst e
     simp only[Bq,if_true,AI.res];rw[n j c];simp
    simp only[Bq,AO e]
    rw[q _ H j,q _ t j])
  refine⟨a,λj o=>?_,by rw[I4 _ _ _ _ c]at n;exact n,?_⟩
  ·rw[y j λD=>o (by simp only[He,Fa,Eb];exact .inr D)]
   exact t j o
  simp only[QU,AA.vals];rw[<-C];simp only[AA.val];rw[y id c];simp
 |[],_::_,_,_,_,_,h,_,_=>h.elim
 |_::_,[],_,_,_,_,h,_,_=>by cases h
end
def Cl:List Prop->Prop
 |[]=>True
 |p::r=>p/\Cl r
theorem Cl.append{l m}:Cl (l++m)↔Cl l/\Cl m:=by
 induction l with
 |nil=>simp[Cl]
 |cons p r a=>simp[Cl,a,and_assoc]
def Ql(P:Program)(t:TypeId):Option Bool:=
 match P.underlying t with
 |some (.struct _)=>Z V
 |some (.array _ _)=>Z V
 |some _=>Z U
 |none=>I
def Hp(P:Program)(t:TypeId):Option Nat:=(P.info? t).map (·.size)
def JT(P:Program)(t:TypeId):Option Value:=(P.info? t).bind (·.zero)
def Rg(P:Program)(t:TypeId)(f:Nat):Option (Nat×TypeId):=
 match P.underlying t with
 |some (.struct a)=>(a[f]?).map λf=>(f.offset,f.type)
 |_=>I
def Lo(P:Program)(t:TypeId):Option TypeId:=
 match P.underlying t with
 |some (.slice e)=>Z e
 |_=>I
theorem YZ{P}{t:TypeId}{b}(h:Ql P t=Z b)(w):(isAgg t).run P w=.ok b w:=by
 unfold Ql at h;unfold isAgg;cases a:P.underlying t with
 |none=>rw[a]at h;cases h
 |some d=>
  rw[Sem.run_bind,run_underlying a];simp only[Result.andThen_ok];rw[a]at h;cases d<;>(simp at h;subst h;rfl)
theorem Oi{P}{t:TypeId}{n}(h:Hp P t=Z n)(w):(sizeOf t).run P w=.ok n w:=by
 unfold Hp at h;obtain⟨i,a,b⟩:=Ds.1 h;simp[sizeOf,typeInfo,a,b]
theorem pb{P}{t:TypeId}{v}(h:JT P t=Z v)(w):(zeroValue t).run P w=.ok v w:=by
 unfold JT at h;cases a:P.info? t with
 |none=>rw[a]at h;cases h
 |some i=>
  rw[a]at h;have b:i.zero=Z v:=h;simp[zeroValue,typeInfo,a,b]
theorem kX{P}{t:TypeId}{f a}{c:TypeId}(h:Rg P t f=Z (a,c)):∃b x,P.underlying t=Z (.struct b)/\b[f]? =Z x/\x.offset=a/\x.type=c:=by
 unfold Rg at h;cases e:P.underlying t with
 |none=>rw[e]at h;cases h
 |some d=>
  rw[e]at h;cases d<;>first|cases h|skip
  rename_i b
  obtain⟨x,g,i⟩:=Ds.1 h;cases i
  exact⟨b,x,rfl,g,rfl,rfl⟩
theorem Pf{P}{t e:TypeId}(h:Lo P t=Z e):P.underlying t=Z (.slice e):=by
 unfold Lo at h;cases a:P.underlying t with
 |none=>rw[a]at h;cases h
 |some d=>
  rw[a]at h;cases d<;>first|(cases h;rfl)|cases h
def Cy(a:Nat->Option AA):Operand->Option AA
 |.tmp t=>a t
 |.const v=>Z (.v v)
 |.global g=>Z (.v (.pointer (Z ⟨g,0,I⟩)))
 |.func f=>Z (.fn f [])
def TQ(c:BinOp):Value->Value->Option (Value×List Prop)
 | .int k a, .int d b =>
  if k=d then
   match c with
   |.add=>Z (.int k (a+b),[k.wrap (a+b)=a+b])
   |.sub=>Z (.int k (a-b),[k.wrap (a-b)=a-b])
   |.mul=>Z (.int k (a*b),[k.wrap (a*b)=a*b])
   |.quo=>Z (.int k (a.tdiv b),[b≠0,k.wrap (a.tdiv b)=a.tdiv b])
   |.rem=>Z (.int k (a.tmod b),[b≠0])
   |.and=>Z (.int k (k.wrap (BitVec.ofInt k.bits a&&&BitVec.ofInt k.bits b).toNat),[])
   |.or=>Z (.int k (k.wrap (BitVec.ofInt k.bits a|||BitVec.ofInt k.bits b).toNat),[])
   |.xor=>Z (.int k (k.wrap (BitVec.ofInt k.bits a^^^BitVec.ofInt k.bits b).toNat),[])
   |.andNot=>Z (.int k (k.wrap (BitVec.ofInt k.bits a&&& ~~~(BitVec.ofInt k.bits b)).toNat),[])
   |.eql=>Z (.bool (a==b),[])
   |.neq=>Z (.bool (a !=b),[])
   |.lss=>Z (.bool (a<b),[])
   |.leq=>Z (.bool (a<=b),[])
   |.gtr=>Z (.bool (a>b),[])
   |.geq=>Z (.bool (a>=b),[])
   |_=>I
  else I
 |.string a,.string b=>
  match c with
  |.add=>Z (.string (a++b),[((a.size+b.size:Nat):Int)<=9223372036854775807])
  |.eql=>Z (.bool (a.toList==b.toList),[])
  |.neq=>Z (.bool !(a.toList==b.toList),[])
  |_=>I
 |_,_=>I
theorem R8{P}{w}{c}{t:TypeId}{a b r}{d}{x y}(h:TQ c a b=Z (r,d))(e:Cl d):
  ((do eqGuard c t x y a b;Go.binOp c t a b):Sem Value).run P w=.ok r w:=by
 have g:(eqGuard c t x y a b).run P w=.ok () w:=by
  unfold eqGuard;cases a<;>cases b<;>first|(simp[TQ]at h;done)|(split<;>rfl)
 rw[Sem.run_bind,g,Result.andThen_ok];cases a<;>cases b<;>first|(simp[TQ]at h;done)|skip
 ·rename_i k a i b
  simp only[TQ]at h;split at h
  ·rename_i f
   subst f
   cases c<;>simp only[reduceCtorEq]at h<;>first
    |(simp only[Option.some.injEq,Prod.mk.injEq]at h;obtain⟨rfl,rfl⟩:=h;simp only[Cl]at e;simp[Go.binOp,Op.intArith,Op.intBits,Op.intCmp,Op.intDiv,e];done)
    |cases h
  cases h
 rename_i a b
 simp only[TQ]at h
 cases c<;>simp only[reduceCtorEq]at h<;>first
  |(simp only[Option.some.injEq,Prod.mk.injEq]at h;obtain⟨rfl,rfl⟩:=h;simp only[Cl]at e;simp[Go.binOp,Op.stringOp,IntKind.max,IntKind.bits,IntKind.signed];try (have:=e.1;omega);done)
  |cases h
def LB{a:Type}(b:List a)(p:Nat):List a->List a
 |[]=>b
 |u::r=>LB (b.set p u) (p+1) r
theorem AA.vals_set(a):∀l i x,AA.vals a (l.set i x)=(AA.vals a l).set i (x.val a)
 |[],i,x=>by simp[AA.vals]
 |y::r,0,x=>by simp[AA.vals]
 |y::r,i+1,x=>by simp[AA.vals,AA.vals_set a r i x]
theorem AA.vals_setL(a):∀Ad l p,AA.vals a (LB l p Ad)=DH (AA.vals a l) p (AA.vals a Ad)
 |[],l,p=>by simp[LB,AA.vals,DH]
 |u::r,l,p=>by simp only[LB,AA.vals,DH];rw[AA.vals_setL a r _ _,AA.vals_set]
theorem Tj:∀Ad a p,p+J Ad<=J a->DH a p Ad=a.take p++Ad++a.drop (p+J Ad)
 |[],a,p,h=>by simp[DH]
 |u::r,a,p,h=>by
  simp only[BK]at h;simp only[DH];rw[Tj r _ _ CY,tO _ _ _ O,List.drop_set_of_lt O];simp[Nat.add_assoc,Nat.add_comm 1]
theorem dw:∀l k b c,(l.zipIdx k).foldl (λd (x:Value×Nat)=>d.setIfInBounds (b+x.2) x.1) c=(DH c.toList (b+k) l).toArray
 |[],k,b,c=>by simp[DH]
 |a::r,k,b,c=>by
  simp only[List.zipIdx_cons,List.foldl_cons,DH];rw[dw r (k+1) b];simp[Nat.add_assoc]
def AA.cells:AA->List AA
 |.agg l=>l
 |x=>[x]
def Mv:AI->Option D
 |.G d=>Z d
 |.L _ d=>Z d
 |_=>I
def eU:AI->Bool
 |.C _=>V
 |_=>U
def Qt:AI->Option D
 |.Q d=>Z d
 |_=>I
mutual
def IE(S:Nat->AI):AA->Bool
 |.v x=>x.oneCell'
 |.P a _=>eU (S a)
 |.ea a _ _ _=>(Mv (S a)).isSome
 |.N a=>(Mv (S a)).isSome
 |.fn _ l=>No S l
 |.bm _ l=>IF S l
 |.F a=>(Qt (S a)).isSome
 |.agg _=>U
 |.T _=>U
def No(S:Nat->AI):List AA->Bool
 |[]=>V
 |x::r=>IE S x&&No S r
def IF(S:Nat->AI):List AA->Bool
 |[]=>V
 |x::r=>(match x with|.agg l=>No S l|y=>IE S y)&&IF S r
end
def MT(S:Nat->AI)(x:AA):Bool:=match x with
 |.agg l=>No S l
 |x=>IE S x
mutual
theorem Lb{S:Nat->AI}{id:Nat}(hS:S id=.none):∀{x:AA},IE S x=V->id∉x.ids
 |.v _,_=>by simp[AA.ids]
 |.P a _,h=>by
  simp only[AA.ids,Dw];intro e;subst e;simp[IE,hS,eU]at h
 |.ea a _ _ _,h=>by
  simp only[AA.ids,Dw];intro e;subst e;simp[IE,hS,Mv]at h
 |.N a,h=>by
  simp only[AA.ids,Dw];intro e;subst e;simp[IE,hS,Mv]at h
 |.fn _ l,h=>ZY hS (by simpa[IE]using h)
 |.bm _ l,h=>Oo hS (by simpa[IE]using h)
 |.F a,h=>by
  simp only[AA.ids,Dw];intro e;subst e;simp[IE,hS,Qt]at h
 |.agg _,h=>by simp[IE]at h
 |.T _,h=>by simp[IE]at h
theorem ZY{S:Nat->AI}{id:Nat}(hS:S id=.none):∀{l:List AA},No S l=V->id∉AA.idsL l
 |[],_=>by simp[AA.idsL]
 |x::r,h=>by
  simp only[No,Aj]at h;simp only[AA.idsL,DQ,not_or];exact⟨Lb hS h.1,ZY hS h.2⟩
theorem Oo{S:Nat->AI}{id:Nat}(hS:S id=.none):∀{l:List AA},IF S l=V->id∉AA.idsL l
 |[],_=>by simp[AA.idsL]
 |.agg l::r,h=>by
  simp only[IF,Aj]at h;simp only[AA.idsL,AA.ids,DQ,not_or];exact⟨ZY hS h.1,Oo hS h.2⟩
 |.v x::r,h=>by
  simp only[IF,Aj]at h;simp only[AA.idsL,DQ,not_or];exact⟨Lb hS h.1,Oo hS h.2⟩
 |.P a b::r,h=>by
  simp only[IF,Aj]at h;simp only[AA.idsL,DQ,not_or];exact⟨Lb hS h.1,Oo hS h.2⟩
 |.ea a b c d::r,h=>by
  simp only[IF,Aj]at h;simp only[AA.idsL,DQ,not_or];exact⟨Lb hS h.1,Oo hS h.2⟩
 |.N a::r,h=>by
  simp only[IF,Aj]at h;simp only[AA.idsL,DQ,not_or];exact⟨Lb hS h.1,Oo hS h.2⟩
 |.T l::r,h=>by
  simp only[IF,Aj]at h;simp[IE]at h
 |.fn f l::r,h=>by
  simp only[IF,Aj]at h;simp only[AA.idsL,DQ,not_or];exact⟨Lb hS h.1,Oo hS h.2⟩
 |.bm f l::r,h=>by
  simp only[IF,Aj]at h;simp only[AA.idsL,DQ,not_or];exact⟨Lb hS h.1,Oo hS h.2⟩
 |.F a::r,h=>by
  simp only[IF,Aj]at h;simp only[AA.idsL,DQ,not_or];exact⟨Lb hS h.1,Oo hS h.2⟩
end
theorem P9{S}{id}(e:S id=.none){x}(h:MT S x=V):id∉AA.idsL x.cells:=by
 cases x with
 |agg l=>exact ZY e h
 |v y=>simp[AA.cells,AA.idsL,AA.ids]
 |P a b=>have:=Lb e (x:=.P a b) h;simpa[AA.cells,AA.idsL]using this
 |ea a b c d=>have:=Lb e (x:=.ea a b c d) h;simpa[AA.cells,AA.idsL]using this
 |N a=>have:=Lb e (x:=.N a) h;simpa[AA.cells,AA.idsL]using this
 |fn a b=>have:=Lb e (x:=.fn a b) h;simpa[AA.cells,AA.idsL]using this
 |bm a b=>have:=Lb e (x:=.bm a b) h;simpa[AA.cells,AA.idsL]using this
 |F a=>have:=Lb e (x:=.F a) h;simpa[AA.cells,AA.idsL]using this
 |T l=>cases h
section
variable{P:Program}{ι:Type}{φ ψ:Nat->Prop}{w0 w w':World}{F:ι->Bv}{ρ:Nat->Value}{S:Nat->AI}
theorem BV.datAt(M:BV φ ψ w0 w (Am F ρ S)){id}{d}(h:S id=.G d):EK w (EY φ (Am F ρ S)) d (ρ id):=by
 have:=M.holds (.inr id);simp only[Am,h,AI.res]at this;exact this.2
theorem BV.rowAt(M:BV φ ψ w0 w (Am F ρ S)){id}{e:TypeId}{d}(h:S id=.L e d):∃a,w.ownsRow 0 e d.sz (ρ id) d.len a/\Ci w (EY φ (Am F ρ S)) d a:=by
 have:=M.holds (.inr id);simp only[Am,h,AI.res]at this;exact this.2
theorem BV.boxAt(M:BV φ ψ w0 w (Am F ρ S)){id}{a}(h:S id=.C a):Bl w (KF (ρ id)) (AA.vals ρ a):=by
 have:=M.holds (.inr id);simp only[Am,h,AI.res]at this;exact this
theorem BV.sliceAt(M:BV φ ψ w0 w (Am F ρ S)){id}{d}(h:Mv (S id)=Z d):∃a c,ρ id=.slice a d.len c/\d.len<=c/\c<=maxLen/\
  ∀i,i<d.len->∃b f,a=Z ⟨b,f,I⟩/\∀j x,(d.elem i)[j]? =Z x->∃u,w.cell? ⟨b,f+(i*d.sz+j),I⟩=Z u/\IH w (EY φ (Am F ρ S)) x u:=by
 cases g:S id with
 |G C=>
  rw[g]at h;cases h;obtain⟨a,c,n,o,q,z⟩:=(M.datAt g).open;exact⟨a,c,n,o,q,λi p=>let⟨b,f,e,_,_,m⟩:=z i p;⟨b,f,e,m⟩⟩
 |L e C=>
  rw[g]at h;cases h;obtain⟨H,n,o⟩:=M.rowAt g;obtain⟨_,a,c,t,r,E,y⟩:=Tm n;refine⟨a,c,t,r,E,λi p=>?_⟩
  obtain⟨b,f,e,_,m⟩:=y O;exact⟨b,f,e,λj x s=>let⟨u,D,v⟩:=o i p j x s;⟨u,m _ u D,v⟩⟩
 |none=>rw[g]at h;cases h
 |E=>rw[g]at h;cases h
 |C G=>rw[g]at h;cases h
 |Q d=>rw[g]at h;cases h
 |kept e d=>rw[g]at h;cases h
 |H k i l=>rw[g]at h;cases h
 |err=>rw[g]at h;cases h
theorem BV.treeAt(M:BV φ ψ w0 w (Am F ρ S)){id}{d}(h:Qt (S id)=Z d):FR w (Fi (ρ id)) d (Fe (ρ id))/\∀b,Fi (ρ id) b->b<w.heap.size:=by
 have c:S id=.Q d:=by
  cases a:S id<;>rw[a]at h<;>simp[Qt]at h
  rw[h]
 have:=M.holds (.inr id);simp only[Am,c,AI.res]at this;exact⟨this.2.1,this.2.2⟩
theorem ld{S}{d}{v}(h:FR w S d v):∃a b,v=.slice a d.len b:=by
 obtain⟨e,l,n,o,f,m,k,p⟩:=h;rcases f.2 with⟨c,i⟩|⟨g,b,j,c,_⟩
 ·exact⟨I,0,by rw[c,i]⟩
 exact⟨_,b,c⟩
theorem pl(M:BV φ ψ w0 w (Am F ρ S)){x}(h:IE S x=V):(x.val ρ).oneCell'=true:=by
 cases x with
 |v x=>exact h
 |N id=>
  obtain⟨d,b⟩:=MD.1 (show(Mv (S id)).isSome=V from h);obtain⟨a,c,e,_⟩:=M.sliceAt b;simp only[AA.val];rw[e];rfl
 |F id=>
  obtain⟨d,b⟩:=MD.1 (show(Qt (S id)).isSome=V from h);obtain⟨a,c,e⟩:=ld (M.treeAt b).1;simp only[AA.val];rw[e];rfl
 |agg l=>cases h
 |T l=>cases h
 |_=>rfl
theorem mC(M:BV φ ψ w0 w (Am F ρ S)):∀{l:List AA},No S l=V->∀u∈AA.vals ρ l,u.oneCell'=V
 |[],_,u,a=>by simp[AA.vals]at a
 |x::r,h,u,a=>by
  simp only[No,Aj]at h;simp only[AA.vals,Eb]at a;rcases a with rfl|a
  ·exact pl M h.1
  exact mC M h.2 u a
theorem up{u:Value}(h:u.oneCell'=V):u.cells= #[u]:=by
 cases u<;>first|rfl|cases h
theorem Sk(M:BV φ ψ w0 w (Am F ρ S)){x}(h:IE S x=V)(c:x.cells=[x]):(x.val ρ).cells=(AA.vals ρ x.cells).toArray/\∀u∈AA.vals ρ x.cells,u.oneCell'=true:=by
 have a:=pl M h;rw[c];refine⟨?_,?_⟩
 ·rw[up a];rfl
 intro u b;simp only[AA.vals,Dw]at b;subst b;exact a
theorem Wb(M:BV φ ψ w0 w (Am F ρ S)){x}(h:MT S x=V):(x.val ρ).cells=(AA.vals ρ x.cells).toArray/\∀u∈AA.vals ρ x.cells,u.oneCell'=true:=by
 cases x with
 |agg l=>exact⟨rfl,mC M h⟩
 |v y=>exact Sk M (x:=.v y) h rfl
 |P a b=>exact Sk M (x:=.P a b) h rfl
 |ea a b c d=>exact Sk M (x:=.ea a b c d) h rfl
 |N a=>exact Sk M (x:=.N a) h rfl
 |fn a b=>exact Sk M (x:=.fn a b) h rfl
 |bm a b=>exact Sk M (x:=.bm a b) h rfl
 |F a=>exact Sk M (x:=.F a) h rfl
 |T l=>cases h
def Vd(P:Program)(t:TypeId)(S:Nat->AI)(e:Operand->Option AA):List AA->List (Nat×Operand)->Option (List AA)
 |b,[]=>Z b
 |b,(i,x)::r=>
  match Rg P t i,e x with
  |some (a,c),Z v=>if MT S v&&Y (Hp P c=Z (J v.cells))&&Y (a+J v.cells<=J b)then Vd P t S e (LB b a v.cells) r else I
  |_,_=>I
theorem tP(M:BV φ ψ w0 w (Am F ρ S)){t:TypeId}{z}(G:P.underlying t=Z (.struct z)){e}{g:Operand->Value}{places:Array (Nat×Nat)}
  (u:∀i a j n,Rg P t i=Z (a,j)->Hp P j=Z n->places[i]? =Z (a,n)):
  ∀b d r,(∀p∈b,∀v,e p.2=Z v->g p.2=v.val ρ)->Vd P t S e d b=Z r->Instr.fill (places[·]?) (AA.vals ρ d).toArray (b.map λp=>(p.1,g p.2))=Z (AA.vals ρ r).toArray
 |[],d,r,_,h=>by simp only[Vd,Option.some.injEq]at h;subst h;rfl
 | (i, x) :: f, d, r, m, h => by
  simp only[Vd]at h;split at h
  ·rename_i a j v D E
   split at h
   ·rename_i o
    simp only[Aj,decide_eq_true_eq]at o;obtain⟨⟨y,H⟩,L⟩:=o;have q:=m (i,x) EI v E;simp only at q;obtain⟨C,_⟩:=Wb M y;simp only[Fa,Instr.fill];rw[u i a j _ D H,q,C];simp only[List.size_toArray,AA.vals_length];have:¬a+J v.cells>J d:=O;simp only[ne_eq,not_true_eq_false,decide_false,Bool.false_or,this];have s:=tP M G u f (LB d a v.cells) r (λp k=>m p (Ep _ k)) h
    rw[AA.vals_setL]at s;rw[<-s];congr 1;have l:=dw (AA.vals ρ v.cells) 0 a (AA.vals ρ d).toArray;simp only[Fx]at l;rw[<-l];simp[Array.zipIdx,List.mapIdx_eq_zipIdx_map]
   cases h
  cases h
end
def D.sub:D->Nat->Nat->D
 |.C x,l,h=>.C ((x.take h).drop l)
 |.bools x,l,h=>.bools ((x.take h).drop l)
 |.bytes x,l,h=>.bytes ((x.take h).drop l)
 |.strs x,l,h=>.strs ((x.take h).drop l)
 |.N x,l,h=>.N ((x.take h).drop l)
 |.E x,l,h=>.E ((x.take h).drop l)
 |.L x,l,h=>.L ((x.take h).drop l)
 |.brows x,l,h=>.brows ((x.take h).drop l)
 |.P x,l,h=>.P ((x.take h).drop l)
 |.M x,l,h=>.M ((x.take h).drop l)
def mD(P:Program)(t:TypeId):Bool:=match P.underlying t with
 |some .bool=>V
 |_=>U
def ey(P:Program)(t:TypeId)(b:BinOp):Value->Value->Option (Value×List Prop)
 | .bool x, .bool y => if mD P t then match b with
   |.eql=>Z (.bool (x==y),[])
   |.neq=>Z (.bool !(x==y),[])
   |_=>I
  else I
 |a,c=>TQ b a c
theorem wo{P}{w}{d}{t:TypeId}{a b r}{obs}{x y}(h:ey P t d a b=Z (r,obs))(k:Cl obs):
  ((do eqGuard d t x y a b;Go.binOp d t a b):Sem Value).run P w=.ok r w:=by
 unfold ey at h;split at h
 ·rename_i g f
  have j:(eqGuard d t x y (.bool g) (.bool f)).run P w=.ok () w:=by
   unfold eqGuard;split<;>rfl
  rw[Sem.run_bind,j,Result.andThen_ok];split at h
  ·rename_i e
   have i:P.underlying t=Z .bool:=by
    unfold mD at e;split at e
    ·assumption
    cases e
   split at h<;>first|cases h|skip
   ·exact run_eql_bool w t g f i
   exact run_neq_bool w t g f i
  cases h
 exact R8 h k
def pU:Operand->Bool
 |.const .nilIface=>V
 |_=>U
def Xc(P:Program)(b:BinOp)(t:TypeId)(a:Bool):Option (AA×List Prop):=
 match P.underlying t with
 |some (.interface _)=>match b with
  |.eql=>Z (.v (.bool a),[])
  |.neq=>Z (.v (.bool !a),[])
  |_=>I
 |_=>I
def Wi(P:Program)(e:Operand->Option AA)(S:Nat->AI):Op->Option (AA×List Prop)
 |.move x=>(e x).map λr=>(r,[])
 |.assign x=>(e x).map λr=>(r,[])
 |.binOp b t x y _=>match e x,e y with
  |some (.v .nilIface),Z (.v .nilIface)=>if pU y then Xc P b t V else I
  |some (.v a),Z (.v c)=>(ey P t b a c).map λr=>(.v r.1,r.2)
  |some (.N id),Z (.v .nilIface)=>(match S id with|.err=>Xc P b t U|_=>I)
  |_,_=>I
 |.unOp o _ x=>match o,e x with
  |.not,Z (.v (.bool b))=>Z (.v (.bool !b),[])
  |.neg,Z (.v (.int k n))=>Z (.v (.int k (0-n)),[k.wrap (0-n)=0-n])
  |_,_=>I
 |.nilCheck x=>match e x with
  |some (.P a b)=>Z (.P a b,[])
  |some (.ea a b c d)=>Z (.ea a b c d,[])
  |some (.fn a b)=>Z (.fn a b,[])
  |some (.bm a b)=>Z (.bm a b,[])
  |_=>I
 |.fieldAddr s x f=>match Rg P s f,e x with
  |some (g,j),Z (.P a b)=>if(Hp P j).any (0< ·)then Z (.P a (b+g),[])else I
  |some (g,j),Z (.ea a b c d)=>if(Hp P j).any (0< ·)then Z (.ea a b (c+g) d,[])else I
  |_,_=>I
 | .field s x f => match Rg P s f, e x with
  |some (g,j),Z (.agg l)=>
   match Ql P j,Hp P j with
   |some V,Z n=>Z (.agg ((l.drop g).take n),[])
   |some U,_=>(l[g]?).map λr=>(r,[])
   |_,_=>I
  |_,_=>I
 |.extract x i=>match e x with
  |some (.T l)=>(l[i]?).map λr=>(r,[])
  |_=>I
 | .indexAddr t x p => match e x, e p with
  |some (.N id),Z (.v (.int _ i))=>
   match Mv (S id),(Lo P t).bind (Hp P)with
   |some d,Z n=>if n=d.sz then Z (.ea id i.toNat 0 d.sz,[0<=i,i<(d.len:Int)])else I
   |_,_=>I
  |some (.F id),Z (.v (.int _ i))=>
   match Qt (S id),(Lo P t).bind (Hp P)with
   |some d,Z n=>if n=d.sz then Z (.ea id i.toNat 0 d.sz,[0<=i,i<(d.len:Int)])else I
   |_,_=>I
  |_,_=>I
 | .index t x p => match e x, e p with
  |some (.v (.string s)),Z (.v (.int _ i))=>
   match P.underlying t with
   |some .string=>Z (.v (.int .u8 ((s.data.toList.getD i.toNat 0).toNat:Int)),[0<=i,i<(s.size:Int)])
   |_=>I
  |_,_=>I
 | .convert s d x => match e x with
  |some (.v (.int _ n))=>
   match(P.underlying s).isSome,P.underlying d with
   |true,Z (.int k)=>Z (.v (.int k n),[k.wrap n=n])
   |_,_=>I
  |some (.v (.string x))=>
   match(P.underlying s).isSome,P.underlying d with
   |true,Z .string=>Z (.v (.string x),[])
   |_,_=>I
  |_=>I
 |.makeFunc (.func f) first m=>
  if first.isEmpty then(m.toList.mapM e).map λl=>(.fn f l,[])else if m.isEmpty then(first.toList.mapM e).map λl=>(.bm f l,[])else I
 | .build t h =>
  match JT P t,P.underlying t with
  |some z,Z (.struct q)=>
   match q.toList.mapM (λf=>(P.info? f.type).map λi=>(f.offset,i.size))with
   |some _=>(Vd P t S e (z.cells.toList.map .v) h.toList).map λl=>(.agg l,[])
   |none=>I
  |_,_=>I
 | .call { callee := .builtin .len, args, argTypes } =>
  match args.toList,argTypes.toList with
  |[x],[t]=>match e x,P.underlying t with
   |some (.N id),Z (.slice _)=>(Mv (S id)).map λd=>(.v (.int .i64 d.len),[])
   |some (.v (.slice _ n _)),Z (.slice _)=>Z (.v (.int .i64 n),[])
   |some (.v (.string s)),Z .string=>Z (.v (.int .i64 s.size),[])
   |some (.F id),Z (.slice _)=>(Qt (S id)).map λd=>(.v (.int .i64 d.len),[])
   |_,_=>I
  |_,_=>I
 |_=>I
section
variable{P:Program}{ι:Type}{φ ψ:Nat->Prop}{w0 w w':World}{F:ι->Bv}{ρ:Nat->Value}{S:Nat->AI}
theorem zb(n m)(v):(if m=0 then Ml n v else(⟨(Ml n v).block,(Ml n v).off+m,I⟩:Addr))=Ml (n+m) v:=by
 unfold Ml;split
 ·rename_i a
  subst a;split<;>simp
 split<;>simp[Nat.add_assoc]
theorem uI{j g:Type}{f:j->Option g}:∀{l:List j} {r:List g},l.mapM f=Z r->∀{i:Nat} {x:j} {y:g},l[i]? =Z x->f x=Z y->r[i]? =Z y
 |[],_,_,_,_,_,c,_=>by simp at c
 | a :: l, r, h, i, x, y, c, e => by
  rw[List.mapM_cons]at h;cases d:f a with
  |none=>rw[d]at h;simp at h
  | some b =>
   cases k:l.mapM f with
   |none=>rw[d,k]at h;simp at h
   |some m=>
    rw[d,k]at h;simp at h;subst h;cases i with
    |zero=>simp at c;subst c;rw[d]at e;cases e;rfl
    |succ i=>simpa using uI k (by simpa using c) e
theorem cS(ρ):∀z,AA.vals ρ (z.map .v)=z
 |[]=>rfl
 |a::r=>by simp only[Fa,AA.vals,AA.val];rw[cS ρ r]
theorem cv{e}{g}:∀{b:List Operand} {l:List AA},(∀x∈b,∀v,e x=Z v->g x=v.val ρ)->b.mapM e=Z l->b.map g=AA.vals ρ l
 |[],l,_,h=>by simp at h;subst h;rfl
 | x :: r, l, d, h => by
  rw[List.mapM_cons]at h;cases a:e x with
  |none=>rw[a]at h;simp at h
  | some v =>
   cases c:r.mapM e with
   |none=>rw[a,c]at h;simp at h
   |some m=>
    rw[a,c]at h;simp at h;subst h;simp only[Fa,AA.vals];rw[d x EI v a,cv (λy f=>d y (Ep _ f)) c]
theorem g9(M:BV φ ψ w0 w (Am F ρ S)){o}{e}{g}(u:∀x∈o.op.operands,∀v,e x=Z v->g x=v.val ρ){r}{obs}(h:Wi P e S o.op=Z (r,obs))(N:Cl obs):
  (execOp g o).run P w=.ok (.value (r.val ρ)) w:=by
 unfold execOp;generalize o.op=op at*;cases op<;>simp only[Wi]at h<;>first|cases h|skip
 case move x=>
  obtain⟨v,j,m⟩:=Ds.1 h;cases m
  simp[u x Ek _ j]
 case assign x=>
  obtain⟨v,j,m⟩:=Ds.1 h;cases m
  simp[u x Ek _ j]
 case binOp b t x y t'=>
  split at h
  ·rename_i j m
   have q:=u x Ek _ j;have hy:=u y Ek _ m;simp only[AA.val]at q hy;split at h<;>first|cases h|skip
   rename_i hc
   unfold Xc at h;split at h<;>first|cases h|skip
   rename_i ms hu
   have T:(eqGuard b t x y .nilIface .nilIface).run P w=.ok () w:=by
    have:∃c,y=.const c:=by
     unfold pU at hc;split at hc
     ·exact⟨_,rfl⟩
     cases hc
    obtain⟨c,rfl⟩:=this;rw[eqGuard_nil_constR];rfl
   have X:P.underlying t=Z (.interface (P.methodsAt t)):=by simp[Program.methodsAt,hu]
   split at h<;>first|cases h|skip
   ·have G:((do eqGuard .eql t x y .nilIface .nilIface;Go.binOp .eql t .nilIface .nilIface):Sem Value).run P w=.ok (.bool V) w:=by
     rw[Sem.run_bind,T,Result.andThen_ok];exact run_eql_nil_nil w t X
    simp only[q,hy];rw[Sem.run_bind,G];rfl
   have G:((do eqGuard .neq t x y .nilIface .nilIface;Go.binOp .neq t .nilIface .nilIface):Sem Value).run P w=.ok (.bool U) w:=by
    rw[Sem.run_bind,T,Result.andThen_ok];exact run_neq_nil_nil w t X
   simp only[q,hy];rw[Sem.run_bind,G];rfl
  ·rename_i a c _ j m
   obtain⟨v,D,L⟩:=Ds.1 h;cases L
   have q:=u x Ek _ j;have hy:=u y Ek _ m;simp only[AA.val]at q hy;have G:=wo (P:=P) (w:=w) (t:=t) (x:=x) (y:=y) (r:=v.1) (obs:=v.2) D N;simp only[q,hy];rw[Sem.run_bind,G];rfl
  ·rename_i id j m
   have q:=u x Ek _ j;have hy:=u y Ek _ m;simp only[AA.val]at q hy;split at h<;>first|cases h|skip
   rename_i hS
   have hM:=M.holds (.inr id);simp only[Am,hS,AI.res,Bv.holds]at hM;obtain⟨-,tt,pp,hv⟩:=hM;unfold Xc at h;split at h<;>first|cases h|skip
   rename_i ms hu
   have T:(eqGuard b t x y (.iface tt pp) .nilIface).run P w=.ok () w:=by cases b<;>rfl
   have X:P.underlying t=Z (.interface (P.methodsAt t)):=by simp[Program.methodsAt,hu]
   split at h<;>first|cases h|skip
   ·have G:((do eqGuard .eql t x y (.iface tt pp) .nilIface;Go.binOp .eql t (.iface tt pp) .nilIface):Sem Value).run P w=.ok (.bool U) w:=by
     rw[Sem.run_bind,T,Result.andThen_ok];exact run_eql_held_nil w t tt pp X
    simp only[q,hy,hv];rw[Sem.run_bind,G];rfl
   have G:((do eqGuard .neq t x y (.iface tt pp) .nilIface;Go.binOp .neq t (.iface tt pp) .nilIface):Sem Value).run P w=.ok (.bool V) w:=by
    rw[Sem.run_bind,T,Result.andThen_ok];exact run_neq_held_nil w t tt pp X
   simp only[q,hy,hv];rw[Sem.run_bind,G];rfl
  cases h
 case unOp b t x=>
  split at h<;>first|cases h|skip
  ·rename_i b j
   simp[u x Ek _ j,AA.val,Op.unary]
  rename_i k n j
  simp only[Cl]at N;have aI:=N.1;simp only[Int.zero_sub]at aI;simp[u x Ek _ j,AA.val,Op.unary,Op.intArith,aI]
 case nilCheck x=>
  split at h<;>first|cases h|skip
  ·rename_i a b j
   simp[u x Ek _ j,AA.val]
  ·rename_i a b c d j
   simp[u x Ek _ j,AA.val]
  ·rename_i a b j
   simp[u x Ek _ j,AA.val]
  rename_i a b j
  simp[u x Ek _ j,AA.val]
 case fieldAddr s x f=>
  have aH:∀(a:Addr) (E:Nat) (ft:TypeId),Rg P s f=Z (E,ft)->(Hp P ft).any (0< ·)=V->(Instr.fieldAt s (.pointer (Z a)) f).run P w=.ok (.pointer (Z (a.add E))) w:=by
   intro a E ft j m;obtain⟨fs,y,k1,k2,k3,k4⟩:=kX j;cases hn:Hp P ft with
   |none=>rw[hn]at m;cases m
   |some n=>
    rw[hn]at m;simp at m;subst k4;simp[Instr.fieldAt,run_underlying k1,k2,Instr.sureAddr,fieldPlace,Oi hn,k3];intro h0;omega
  split at h
  ·rename_i E ft a b j m
   split at h
   ·rename_i hs
    cases h
    simp only[u x Ek _ m,AA.val];rw[Sem.run_bind,aH _ _ _ j hs];simp only[Result.andThen_ok,Sem.run_pure,Addr.add];split
    ·rename_i h0;subst h0;rfl
    rfl
   cases h
  ·rename_i E ft a b c d j m
   split at h
   ·rename_i hs
    cases h
    simp only[u x Ek _ m,AA.val];rw[Sem.run_bind,aH _ _ _ j hs];simp only[Result.andThen_ok,Sem.run_pure,Addr.add];rw[zb,Nat.add_assoc]
   cases h
  cases h
 case field s x f=>
  split at h<;>first|cases h|skip
  rename_i E ft l j m
  obtain⟨fs,y,k1,k2,k3,k4⟩:=kX j;subst k3;subst k4;have q:=u x Ek _ m;simp only[AA.val]at q;split at h<;>first|cases h|skip
  ·rename_i n D L
   simp[Instr.field,run_underlying k1,k2,q,asAgg,part,YZ D,Oi L,AA.val,AA.vals_take,AA.vals_drop,List.take_drop]
  rename_i z D
  obtain⟨v,h5,h6⟩:=Ds.1 h;cases h6
  simp[Instr.field,run_underlying k1,k2,q,asAgg,part,YZ D,AA.vals_get,h5]
 case extract x i=>
  split at h<;>first|cases h|skip
  rename_i l j
  obtain⟨v,m,D⟩:=Ds.1 h;cases D
  simp[Instr.extract,u x Ek _ j,AA.val,AA.vals_get,m]
 case indexAddr t x ix=>
  split at h<;>first|cases h|skip
  ·rename_i id k i j m
   split at h<;>first|cases h|skip
   rename_i d n D L
   split at h<;>first|cases h|skip
   rename_i hn
   subst hn;simp only[Cl]at N;obtain⟨e',h5,h6⟩:=Option.bind_eq_some_iff.1 L;obtain⟨a,H,G,_,_,hc⟩:=M.sliceAt D;obtain⟨b,E,rfl,_⟩:=hc i.toNat O;have q:=u x Ek _ j;have hi:=u ix Ek _ m;simp only[AA.val]at q hi;rw[G]at q;simp[Instr.indexAt,q,hi,asIntOf,run_underlying (Pf h5),Oi h6,N.1,N.2.1,AA.val,G,Fe,Ml,Addr.add]
  rename_i id k i j m
  split at h<;>first|cases h|skip
  rename_i d n D L
  split at h<;>first|cases h|skip
  rename_i hn
  subst hn;simp only[Cl]at N;obtain⟨e',h5,h6⟩:=Option.bind_eq_some_iff.1 L;obtain⟨e2,xs,S',_,k1,_⟩:=(M.treeAt D).1;rcases k1.2 with⟨_,k2⟩|⟨b,H,aU,G,_⟩
  ·exfalso;omega
  have q:=u x Ek _ j;have hi:=u ix Ek _ m;simp only[AA.val]at q hi;rw[G]at q;simp[Instr.indexAt,q,hi,asIntOf,run_underlying (Pf h5),Oi h6,N.1,N.2.1,AA.val,G,Ml,Addr.add];intro h0;exact h0.symm
 case index t x ix=>
  split at h<;>first|cases h|skip
  rename_i s k i j m
  split at h<;>first|cases h|skip
  rename_i D
  simp only[Cl]at N;have q:=u x Ek _ j;have hi:=u ix Ek _ m;simp only[AA.val]at q hi;have aO:i.toNat<s.size:=O;simp[Instr.index,q,hi,asIntOf,run_underlying D,N.1,AA.val,aO];rfl
 case convert s d x=>
  split at h<;>first|cases h|skip
  ·rename_i k n j
   split at h<;>first|cases h|skip
   rename_i k' m D
   simp only[Cl]at N;obtain⟨ds,aD⟩:=MD.1 m;have q:=u x Ek _ j;simp only[AA.val]at q;cases ds<;>simp[convert,q,run_underlying aD,run_underlying D,Conv.intToInt,N.1,AA.val]
  rename_i aM j
  split at h<;>first|cases h|skip
  rename_i m D
  obtain⟨ds,aD⟩:=MD.1 m;have q:=u x Ek _ j;simp only[AA.val]at q;cases ds<;>simp[convert,q,run_underlying aD,run_underlying D,AA.val]
 case makeFunc fn first H=>
  cases fn<;>simp only[]at h<;>first|cases h|skip
  rename_i f
  split at h
  ·rename_i hf
   obtain⟨l,j,m⟩:=Ds.1 h;cases m
   have aE:first= #[]:=by simpa using hf
   subst aE;have:=cv (ρ:=ρ) (g:=g) (λx q v hv=>u x (by simp[Op.operands];simpa using q) v hv) j
   simp only[Instr.makeFunc,AA.val, <-this];have:Array.map g H=(List.map g H.toList).toArray:=by apply Array.ext';simp
   simp[this]
  split at h<;>first|cases h|skip
  rename_i hf
  obtain⟨l,j,m⟩:=Ds.1 h;cases m
  have aE:H= #[]:=by simpa using hf
  subst aE;have:=cv (ρ:=ρ) (g:=g) (λx q v hv=>u x (by simp[Op.operands];simpa using q) v hv) j
  simp only[Instr.makeFunc,AA.val, <-this];have:Array.map g first=(List.map g first.toList).toArray:=by apply Array.ext';simp
  simp[this]
 case build t R=>
  split at h<;>first|cases h|skip
  rename_i z fs j m
  split at h<;>first|cases h|skip
  rename_i aC aG
  obtain⟨l,D,L⟩:=Ds.1 h;cases L
  obtain⟨it,aL,hz⟩:∃it,P.info? t=Z it/\it.zero=Z z:=by
   unfold JT at j;exact Option.bind_eq_some_iff.1 j
  have hb:P.built t (R.map fun(i,x)=>(i,g x)).toList=Z (AA.vals ρ l).toArray:=by
   unfold Program.built;simp only[aL,m,hz,aG]
   have h5:=tP M m (e:=e) (g:=g) (places:=aC.toArray) (λi E ft n k1 k2=>by
    obtain⟨aS,x,m1,m2,m3,m4⟩:=kX k1;rw[m]at m1;cases m1;obtain⟨y,n1,n2⟩:=Ds.1 k2;have:=uI aG (i:=i) (x:=x) (y:=(E,n)) (by simpa using m2) (by simp[m4,n1,m3,n2])
    simpa using this) R.toList _ l (λp hp v hv=>u p.2 (by simp[Op.operands];exact⟨p.1,by simpa using hp⟩) v hv) D
   rw[cS]at h5;rw[<-h5];simp
  rw[Sem.run_bind,run_build w t _ _ hb];simp[AA.val]
 case call c=>
  obtain⟨aB,aJ,Q⟩:=c;cases aB<;>(try simp only[]at h)<;>first|cases h|skip
  rename_i b
  cases b<;>(try simp only[]at h)<;>first|cases h|skip
  split at h<;>first|cases h|skip
  rename_i x t q ht
  have aQ:aJ= #[x]:=by apply Array.ext';simpa using q
  have aN:Q= #[t]:=by apply Array.ext';simpa using ht
  subst aQ;subst aN;split at h<;>first|cases h|skip
  ·rename_i id e' j m
   obtain⟨d,D,L⟩:=Ds.1 h;cases L
   obtain⟨a,H,G,_⟩:=M.sliceAt D;have C:=u x (by simp[Op.operands,Call.operands]) _ j
   simp only[AA.val]at C;rw[G]at C;simp[resolve,invoke,builtin,C,Builtin.len_,run_underlying m,AA.val,goInt]
  ·rename_i a n H e' j m
   have C:=u x (by simp[Op.operands,Call.operands]) _ j
   simp only[AA.val]at C;simp[resolve,invoke,builtin,C,Builtin.len_,run_underlying m,AA.val,goInt]
  ·rename_i aM j m
   have C:=u x (by simp[Op.operands,Call.operands]) _ j
   simp only[AA.val]at C;simp[resolve,invoke,builtin,C,Builtin.len_,run_underlying m,AA.val,goInt]
  rename_i id e' j m
  obtain⟨d,D,L⟩:=Ds.1 h;cases L
  obtain⟨a,H,G⟩:=ld (M.treeAt D).1;have C:=u x (by simp[Op.operands,Call.operands]) _ j
  simp only[AA.val]at C;rw[G]at C;simp[resolve,invoke,builtin,C,Builtin.len_,run_underlying m,AA.val,goInt]
end
structure Ht where
 new:List (Nat×AI)
 made:List Nat
 res:AA
 obs:List Prop
def Qx(P:Program)(t:TypeId)(l:List AA):Option AA:=
 match Ql P t with
 |some V=>if Hp P t=Z (J l)then Z (.agg l)else I
 |some U=>match l with
  |[x]=>Z x
  |_=>I
 |none=>I
def Qz(P:Program)(t:TypeId):Nat:=match Ql P t with
 |some V=>(Hp P t).getD 0
 |_=>1
def kr(P:Program)(t:TypeId):Bool:=match Ql P t with
 |some U=>V
 |_=>U
def ko(P:Program)(t:TypeId)(a j:Nat):Bool:=CW a 1&&(CW j 0&&(CW (Qz P t) 1&&kr P t))
def jy(P:Program)(S:Nat->AI)(id:Nat)(t:TypeId):AA->Option Ht
 |.P a b=>match S a with
  |.C e=>(Qx P t ((e.drop b).take (Qz P t))).map λr=>⟨[],[],r,[]⟩
  |_=>I
 | .ea a i j c => match Mv (S a) with
  | some d =>
   if c=d.sz then
    (Qx P t (QU (((d.elem i).drop j).take (Qz P t)) id)).map λr=>⟨He (((d.elem i).drop j).take (Qz P t)) id,(He (((d.elem i).drop j).take (Qz P t)) id).map (·.1),r,[i<d.len]⟩
   else I
  |none=>match S a with
   |.Q (.L l)=>if ko P t c j then Z ⟨[(id,.L 3 (.C (l.getD i []))),(a,.H id i l)],[id],.N id,[i<J l]⟩else I
   |_=>I
 |_=>I
def D.empty:D->D
 |.C _=>.C []
 |.bools _=>.bools []
 |.bytes _=>.bytes []
 |.strs _=>.strs []
 |.N _=>.N []
 |.E _=>.E []
 |.L _=>.L []
 |.brows _=>.brows []
 |.P _=>.P []
 |.M _=>.M []
def D.putX:D->Nat->List X->Option D
 |.C l,i,[.v (.int .i64 n)]=>Z (.C (l.set i n))
 |.bools l,i,[.v (.bool b)]=>Z (.bools (l.set i b))
 |.strs l,i,[.v (.string s)]=>Z (.strs (l.set i s))
 |.N l,i,[.v (.int .i64 o),.v (.int .i64 a),.v (.int .i64 b),.v (.int .i64 c),.v (.int .i64 d)]=>Z (.N (l.set i ⟨o,a,b,c,d⟩))
 |.E l,i,[.v (.int .i64 a),.v (.int .i64 b)]=>Z (.E (l.set i (a,b)))
 |.L l,i,[.sl (.C r)]=>Z (.L (l.set i r))
 |.brows l,i,[.sl (.bools r)]=>Z (.brows (l.set i r))
 |.P l,i,[.v (.int .i64 a),.v (.int .i64 b),.sl (.P x)]=>Z (.P (l.set i ⟨a,b,x⟩))
 |.M l,i,[.v (.int .i64 a),.v (.int .i64 b),.v (.int .i64 c),.v (.int .i64 d),.sl (.P x),.v (.int .i64 e),.v (.int .i64 f),.sl (.P y),.v (.int .i64 g),.sl (.M z),.sl (.M u)]=>Z (.M (l.set i ⟨a,b,⟨c,d,x⟩,⟨e,f,y⟩,g,z,u⟩))
 |_,_,_=>I
def JI(S:Nat->AI):List X->List AA->Option (List X)
 |[],[]=>Z []
 |.v _::r,.v x::s=>(JI S r s).map (.v x:: ·)
 | .sl a :: r, y :: s => match y with
  |.N id=>match S id with
   |.G d=>(JI S r s).map (.sl d:: ·)
   |_=>I
  |.v (.slice I 0 0)=>(JI S r s).map (.sl a.empty:: ·)
  |_=>I
 |_,_=>I
def AF.putI(e:AF)(n:Int):Nat->Option AF
 |0=>Z ⟨n,e.v,e.k⟩
 |1=>Z ⟨e.t,n,e.k⟩
 |_=>I
def AG.putI(s:AG)(n:Int):Nat->Option AG
 |0=>Z ⟨n,s.g,s.i,s.v,s.count,s.b,s.e⟩
 |1=>Z ⟨s.t,n,s.i,s.v,s.count,s.b,s.e⟩
 |2=>Z ⟨s.t,s.g,⟨n,s.i.v,s.i.k⟩,s.v,s.count,s.b,s.e⟩
 |3=>Z ⟨s.t,s.g,⟨s.i.t,n,s.i.k⟩,s.v,s.count,s.b,s.e⟩
 |5=>Z ⟨s.t,s.g,s.i,⟨n,s.v.v,s.v.k⟩,s.count,s.b,s.e⟩
 |6=>Z ⟨s.t,s.g,s.i,⟨s.v.t,n,s.v.k⟩,s.count,s.b,s.e⟩
 |8=>Z ⟨s.t,s.g,s.i,s.v,n,s.b,s.e⟩
 |_=>I
def D.putI(i j:Nat)(n:Int):D->Option D
 |.P l=>((l.getD i K).putI n j).map λe=>.P (l.set i e)
 |.M l=>((l.getD i K).putI n j).map λs=>.M (l.set i s)
 |_=>I
def UI(P:Program)(S:Nat->AI)(t:TypeId)(v:AA):AA->Option Ht
 |.P a b=>match S a with
  |.C f=>if MT S v&&Y (Hp P t=Z (J v.cells))&&Y (b+J v.cells<=J f)then Z ⟨[(a,.C (LB f b v.cells))],[],.v undef,[]⟩else I
  |_=>I
 | .ea a i j g => match S a with
  | .L e d => if MT S v && Y (Hp P t = Z (J v.cells)) && Y (g = d.sz) && Y (j + J v.cells <= d.sz) then
    match JI S (((d.elem i).drop j).take (J v.cells)) v.cells with
    |some h=>(d.putX i (LB (d.elem i) j h)).map λc=>⟨[(a,.L e c)],[],.v undef,[i<d.len]⟩
    |none=>I
   else I
  |.Q d=>match v with
   |.v (.int .i64 n)=>if Y (Hp P t=Z 1)&&Y (g=d.sz)then(d.putI i j n).map λc=>⟨[(a,.Q c)],[],.v undef,[i<d.len]⟩else I
   |_=>I
  |_=>I
 |_=>I
def fR(S:Nat->AI)(id:Nat)(v:AA):Option Ht:=
 if MT S v then Z ⟨[(id,.C v.cells)],[id],.P id 0,[]⟩else I
section
variable{P:Program}{ι:Type}{φ ψ:Nat->Prop}{w0 w w':World}{F:ι->Bv}{ρ:Nat->Value}{S:Nat->AI}
def Hk(φ ψ:Nat->Prop)(w0:World)(F:ι->Bv)(ρ:Nat->Value)(S:Nat->AI)(t:Ht)(v:Value)(w':World):Prop:=
 ∃a,FK t.made ρ a/\BV φ ψ w0 w' (Am F a (Bq S t.new))/\v=t.res.val a
theorem YS{t:TypeId}{l}{r}(h:Qx P t l=Z r)(a)(c:∀j u,(AA.vals ρ l)[j]? =Z u->w.cell? (a.add j)=Z u):(loadVar t a).run P w=.ok (r.val ρ) w:=by
 unfold Qx at h;unfold loadVar;split at h
 ·rename_i b
  split at h
  ·rename_i f
   cases h
   have g:J l=(AA.vals ρ l).length:=(AA.vals_length ρ l).symm;have:=run_loadCells_list (P:=P) (w:=w) a (AA.vals ρ l) c;rw[AA.vals_length]at this;simp[YZ b,Oi f,this,AA.val]
  cases h
 ·rename_i b
  split at h<;>first|cases h|skip
  rename_i x
  have d:=c 0 (r.val ρ) (by simp[AA.vals])
  have e:a.add 0=a:=by simp[Addr.add]
  rw[e]at d;simp[YZ b,d]
 cases h
theorem o2{d:D}{φ}{b a i}(h:∀j x,(d.elem i)[j]? =Z x->∃u,w.cell? ⟨b,a+(i*d.sz+j),I⟩=Z u/\IH w φ x u):∀n j,∃Ad,Kx w φ (((d.elem i).drop j).take n) Ad/\∀k u,Ad[k]? =Z u->w.cell? ⟨b,a+(i*d.sz+(j+k)),I⟩=Z u:=by
 intro n;induction n with
 |zero=>intro j;exact⟨[],by simp[Kx],At⟩
 | succ n p =>
  intro j;cases f:(d.elem i)[j]? with
  | none =>
   have c:(d.elem i).drop j=[]:=by
    rw[List.drop_eq_nil_iff];exact List.getElem?_eq_none_iff.1 f
   exact⟨[],by simp[c,Kx],At⟩
  | some x =>
   obtain⟨u,g,o⟩:=h j x f;obtain⟨Ad,l,q⟩:=p (j+1);have c:=(EA.1 f);refine⟨u::Ad,?_,λk m e=>?_⟩
   ·rw[List.drop_eq_getElem_cons c.1,List.take_succ_cons,c.2]
    exact⟨o,l⟩
   cases k with
   |zero=>simp at e;subst e;exact g
   |succ k=>
    have:=q k m (by simpa using e)
    rw[show j+(k+1)=j+1+k by omega];exact this
theorem BV.re{o:Type}{L a:o->Bv}(M:BV φ ψ w0 w L)(f:∀k b,(a k).blk b->∃j,(L j).blk b)(r:∀i j g,i≠j->(a i).blk g->¬(a j).blk g)(h:∀k,a k=L k\/∀l,(a k).holds w l):BV φ ψ w0 w a:=by
 have m:∀b,EY φ L b->EY φ a b:=λb d=>⟨d.1,λk p=>let⟨j,c⟩:=f k b p;d.2 j c⟩
 refine⟨M.kept,M.fresh,M.env,λk=>?_,r,λi b n=>let⟨j,c⟩:=f i b n;M.ge j b c,λi b n=>let⟨j,c⟩:=f i b n;M.ph j b c⟩
 rcases h k with e|q
 ·rw[e];exact Bv.keep (M.holds k) (Ew.mono λb _ d=>m b d) λ_ _=>rfl
 exact q _
theorem Ci.ints'{φ}(r):Ci w φ (.C r) (BW r):=λi a j x b=>by
 obtain⟨y,rfl,h⟩:=Ox r (Value.int .i64) 0 a b;exact⟨y,h,rfl⟩
theorem BV.takeRow(M:BV φ ψ w0 w (Am F ρ S)){a id i}{l}(E:S a=.Q (.L l))(L:S id=.none)(hi:FV S ρ [id])(hl:i<J l):
  ∃u v s,Fe (ρ a)=.slice (Z v) (J l) s/\v.spot=I/\w.cell? ⟨v.block,v.off+i,I⟩=Z u/\
   BV φ ψ w0 w (Am F (λj=>if j=id then u else ρ j) (Bq S [(id,.L 3 (.C (l.getD i []))),(a,.H id i l)])):=by
 obtain⟨hT,Q⟩:=M.treeAt (id:=a) (d:=.L l) (by rw[E];rfl)
 obtain⟨u,v,s,hO,hr,y,hv,hc,hn⟩:=hT.takeRow hl;refine⟨u,v,s,hv,hn,hc,?_⟩;have N:a≠id:=λe=>by rw[e,L]at E;cases E
 have ha:FK [id] ρ (λj=>if j=id then u else ρ j):=λj hj=>by
  have:j≠id:=by simpa using hj
  simp[this]
 have G:Am F (λj=>if j=id then u else ρ j) (Bq S [(id,.L 3 (.C (l.getD i []))),(a,.H id i l)]) (.inr id)=.L 3 1 u (l.getD i []).length λR w φ=>Ci w φ (.C (l.getD i [])) R:=by
  simp only[Am,Bq,if_true,AI.res,D.sz,D.len]
 have C:Am F (λj=>if j=id then u else ρ j) (Bq S [(id,.L 3 (.C (l.getD i []))),(a,.H id i l)]) (.inr a)=.own (λb=>Fi (ρ a) b/\u.ownBlock≠Z b) λw=>On w (Fi (ρ a)) i l u (Fe (ρ a)):=by
  simp only[Am,Bq,AO N,if_true,AI.res]
 have X:∀k,k≠ .inr id->k≠ .inr a->Am F (λj=>if j=id then u else ρ j) (Bq S [(id,.L 3 (.C (l.getD i []))),(a,.H id i l)]) k=Am F ρ S k:=λk t o=>by
  cases k with
  |inl q=>rfl
  |inr j=>
   have f:j≠id:=λe=>t (by rw[e])
   have c:j≠a:=λe=>o (by rw[e])
   simp only[Am,Bq,AO f,AO c];exact hi _ ha j
 have H:∀b,(Am F ρ S (.inr a)).blk b↔Fi (ρ a) b:=λb=>by simp only[Am,E,AI.res,Bv.blk]
 generalize Am F (λj=>if j=id then u else ρ j) (Bq S [(id,.L 3 (.C (l.getD i []))),(a,.H id i l)])=L' at*
 have n:∀k b,(L' k).blk b->(k=.inr id\/k=.inr a)/\Fi (ρ a) b\/(k≠ .inr id/\k≠ .inr a)/\(Am F ρ S k).blk b:=λk b m=>by
  by_cases f:k=.inr id
  ·subst f
   rw[G]at m;exact .inl ⟨.inl rfl,y b m⟩
  by_cases c:k=.inr a
  ·subst c
   rw[C]at m;exact .inl ⟨.inr rfl,m.1⟩
  rw[X k f c]at m;exact .inr ⟨⟨f,c⟩,m⟩
 refine M.re (λk b m=>?_) (λp q g r t o=>?_) λk=>?_
 ·rcases n k b m with⟨_,h⟩|⟨_,h⟩
  ·exact⟨.inr a,(H b).2 h⟩
  exact⟨k,h⟩
 ·rcases n p g t with⟨f,z⟩|⟨f,z⟩
  ·rcases n q g o with⟨c,x⟩|⟨c,x⟩
   ·rcases f with rfl|rfl<;>rcases c with rfl|rfl
    ·exact r rfl
    ·rw[G]at t;rw[C]at o;exact o.2 t
    ·rw[C]at t;rw[G]at o;exact t.2 o
    exact r rfl
   exact M.dis (.inr a) q g (λe=>c.2 e.symm) ((H g).2 z) x
  rcases n q g o with⟨c,x⟩|⟨c,x⟩
  ·exact M.dis p (.inr a) g f.2 z ((H g).2 x)
  exact M.dis p q g r z x
 by_cases f:k=.inr id
 ·subst f
  right;intro T;rw[G];exact⟨λR=>Ci.nice _ R,_,hr,Ci.ints' _⟩
 by_cases c:k=.inr a
 ·subst c
  right;intro T;rw[C];exact⟨λ_ _ h hs=>h.same hs,hO,λb m=>Q b m.1⟩
 exact .inl (X k f c)
theorem L0(M:BV φ ψ w0 w (Am F ρ S)){o}{g}{t:TypeId}{x}(n:o.op=.load t x){L}(N:g x=L.val ρ){id}{r}(h:jy P S id t L=Z r)(E:Cl r.obs)(D:∀j∈r.made,S j=.none)(hi:FV S ρ r.made):
  FG P o g w (Hk φ ψ w0 F ρ S r):=by
 cases L<;>simp only[jy]at h<;>first|cases h|skip
 ·rename_i a c
  split at h<;>first|cases h|skip
  rename_i cs X
  obtain⟨v,C,T⟩:=Ds.1 h;cases T
  refine .inl ⟨v.val ρ,w,?_,ρ,FK.refl _ _,M,rfl⟩;have hb:=M.boxAt X
  have p:=YS (P:=P) (ρ:=ρ) (w:=w) C ⟨KF (ρ a),c,I⟩ (λj u z=>by
   rw[AA.vals_take,AA.vals_drop]at z;have e:(⟨KF (ρ a),c,I⟩:Addr).add j=⟨KF (ρ a),c+j,I⟩:=by unfold Addr.add;split<;>simp_all
   rw[e,hb.cell];rw[List.getElem?_take]at z;split at z
   ·rw[List.getElem?_drop]at z;exact z
   cases z)
  simp[execOp,n,N,AA.val,Instr.loadAt,Instr.sureAddr,p]
 rename_i a i j sz
 split at h
 case h_2=>
  split at h<;>first|cases h|skip
  rename_i l X
  split at h<;>first|cases h|skip
  rename_i G
  simp only[ko,Aj,CW,beq_iff_eq]at G;obtain⟨y,H,-,f⟩:=G;subst y;subst H
  have f:Ql P t=Z false:=by
   unfold kr at f;revert f;cases Ql P t with
   |none=>intro h;cases h
   |some b=>cases b<;>intro h<;>first|rfl|cases h
  simp only[Cl]at E;obtain⟨u,ad,Q,hv,hn,q,M'⟩:=M.takeRow X (D id At) hi E.1;obtain⟨bk,c,aB⟩:=ad;cases hn
  refine .inl ⟨u,w,?_,_,λk m=>?_,M',?_⟩
  ·have C:Qx P t [.v u]=Z (.v u):=by unfold Qx;rw[f]
   have p:=YS (P:=P) (ρ:=ρ) (w:=w) C ⟨bk,c+(i*1+0),I⟩ (λk u' m=>by
    cases k with
    |zero=>
     simp[AA.vals,AA.val]at m;subst m;have e:(⟨bk,c+(i*1+0),I⟩:Addr).add 0=⟨bk,c+i,I⟩:=by unfold Addr.add;split<;>simp_all
     rw[e];exact q
    |succ k=>simp[AA.vals]at m)
   try simp only[AA.val]at p
   simp[execOp,n,N,AA.val,Instr.loadAt,Instr.sureAddr,hv,Ml]at p ⊢;simp[p]
  ·have:k≠id:=by simpa using m
   simp[this]
  simp[AA.val]
 rename_i d hd
 split at h<;>first|cases h|skip
 rename_i y
 subst y;obtain⟨v,C,T⟩:=Ds.1 h;cases T
 simp only[Cl]at E;obtain⟨aa,Q,hr,_,_,G⟩:=M.sliceAt hd;obtain⟨b,c,rfl,R⟩:=G i E.1;obtain⟨Ad,k1,k2⟩:=o2 R (Qz P t) j;obtain⟨s,m1,m2,m3⟩:=M.dats _ Ad id k1 D hi;refine .inl ⟨v.val s,w,?_,s,m1,m2,rfl⟩
 have p:=YS (P:=P) (ρ:=s) (w:=w) C ⟨b,c+(i*d.sz+j),I⟩ (λk u m=>by
  rw[<-m3]at m;have e:(⟨b,c+(i*d.sz+j),I⟩:Addr).add k=⟨b,c+(i*d.sz+(j+k)),I⟩:=by unfold Addr.add;split<;>simp_all[Nat.add_assoc]
  rw[e];exact k2 k u m)
 simp[execOp,n,N,AA.val,Instr.loadAt,Instr.sureAddr,hr,Fe,Ml,p]
theorem Dl.setRow'{w}{b}{d cs':List Value}{T:TypeId}(_h:w.heap[b]? =Z (.cells d.toArray T (0,0))):Dl (λc=>¬c=b) w (w.setRow b cs'.toArray)/\Bl (w.setRow b cs'.toArray) b cs':=
 ⟨⟨rfl,rfl,rfl,At,λc _ e=>setRow_other _ _ _ _ e⟩,T,setRow_heap _ _ _ _ _ _ _h⟩
theorem XN{d:Type}:∀(Ad a:List d) (p q:Nat),p+J Ad<=J a->(LB a p Ad)[q]? =if p<=q/\q<p+(J Ad)then Ad[q-p]? else a[q]?
 |[],a,p,q,_=>by simp[LB];intro b c;omega
 | u :: r, a, p, q, h => by
  simp only[BK]at h;simp only[LB];rw[XN r _ _ _ CY];by_cases b:p+1<=q/\q<p+1+J r
  ·rw[AZ b,AZ CY]
   rw[show q-p=(q-(p+1))+1 by omega];simp
  rw[AO b];by_cases c:q=p
  ·subst c
   rw[AZ At];rw[List.getElem?_set_self O];simp
  rw[AO CY,List.getElem?_set_ne O]
theorem kj:∀Ad a p,DH a p Ad=LB a p Ad
 |[],_,_=>rfl
 |u::r,a,p=>by simp only[DH,LB];exact kj r _ _
theorem Yv:∀Ad a p k,(DH a p Ad).take k=DH (a.take k) p Ad
 |[],_,_,_=>rfl
 |u::r,a,p,k=>by simp only[DH];rw[Yv r,List.take_set]
theorem PJ{a:Type}(f:a->List X){l:List a}{i}{y z:a}{b}(h:f y=b):(i<J l->f ((l.set i y).getD i z)=b)/\∀k,k≠i->f ((l.set i y).getD k z)=f (l.getD k z):=
 ⟨λd=>by rw[Bu,List.getElem?_set_self d];exact h,λk c=>by rw[Bu,List.getElem?_set_ne λe=>c e.symm, <-Bu]⟩
theorem D.putX_ok{d a:D}{i}{b}(h:d.putX i b=Z a):a.len=d.len/\a.sz=d.sz/\(i<d.len->a.elem i=b)/\∀k,k≠i->a.elem k=d.elem k:=by
 unfold D.putX at h;split at h<;>first|cases h|skip
 ·exact⟨by simp[D.len],rfl,PJ (λn=>[X.v (.int .i64 n)]) rfl⟩
 ·exact⟨by simp[D.len],rfl,PJ (λn=>[X.v (.bool n)]) rfl⟩
 ·exact⟨by simp[D.len],rfl,PJ (λn=>[X.v (.string n)]) rfl⟩
 ·exact⟨by simp[D.len],rfl,PJ Sm rfl⟩
 ·exact⟨by simp[D.len],rfl,PJ SH rfl⟩
 ·exact⟨by simp[D.len],rfl,PJ (λr=>[X.sl (.C r)]) rfl⟩
 ·exact⟨by simp[D.len],rfl,PJ (λr=>[X.sl (.bools r)]) rfl⟩
 ·exact⟨by simp[D.len],rfl,PJ RJ rfl⟩
 exact⟨by simp[D.len],rfl,PJ Sh rfl⟩
theorem D.empty_len(d:D):d.empty.len=0:=by cases d<;>rfl
theorem EK.empty(w)(φ)(d:D):EK w φ d.empty (.slice I 0 0):=by
 refine EK.make (xs:=[]) ?_ λi a=>by rw[D.empty_len]at a;omega
 rw[D.empty_len];exact CV.nil _ _ _
theorem Xs(M:BV φ ψ w0 w (Am F ρ S)):∀{c:List X} {l:List AA} {a:List X},JI S c l=Z a->Kx w (EY φ (Am F ρ S)) a (AA.vals ρ l)
 |[],[],a,h=>by simp only[JI,Option.some.injEq]at h;subst h;trivial
 |.v y::r,.v x::s,a,h=>by
  simp only[JI,Ds]at h;obtain⟨e,b,rfl⟩:=h;exact⟨rfl,Xs M b⟩
 | .sl g :: r, y :: s, a, h => by
  simp only[JI]at h;split at h
  ·split at h<;>first|cases h|skip
   rename_i id _ d f
   obtain⟨e,b,rfl⟩:=Ds.1 h;exact⟨M.datAt f,Xs M b⟩
  ·obtain⟨e,b,rfl⟩:=Ds.1 h
   exact⟨EK.empty _ _ _,Xs M b⟩
  cases h
 |[],_::_,a,h=>by simp[JI]at h
 |.v _::_,[],a,h=>by simp[JI]at h
 |.sl _::_,[],a,h=>by simp[JI]at h
 |.v _::_,.P _ _::_,a,h=>by simp[JI]at h
 |.v _::_,.ea _ _ _ _::_,a,h=>by simp[JI]at h
 |.v _::_,.N _::_,a,h=>by simp[JI]at h
 |.v _::_,.agg _::_,a,h=>by simp[JI]at h
 |.v _::_,.T _::_,a,h=>by simp[JI]at h
 |.v _::_,.fn _ _::_,a,h=>by simp[JI]at h
 |.v _::_,.bm _ _::_,a,h=>by simp[JI]at h
 |.v _::_,.F _::_,a,h=>by simp[JI]at h
theorem Kx.get{φ}:∀{b:List X} {Ad:List Value},Kx w φ b Ad->J b=J Ad/\∀(j:Nat) x,b[j]? =Z x->∃u,Ad[j]? =Z u/\IH w φ x u
 |[],[],_=>⟨rfl,λj x h=>by simp at h⟩
 |x::r,u::s,h=>by
  obtain⟨c,d⟩:=Kx.get h.2;refine⟨by simp[c],λj y a=>?_⟩
  cases j with
  |zero=>simp at a;subst a;exact⟨u,rfl,h.1⟩
  |succ j=>simpa using d j y (by simpa using a)
 |[],_::_,h=>h.elim
 |_::_,[],h=>by cases h
theorem Ci.put{φ}{d n}{c Ad}{i j}{f}(l:Ci w φ d c)(M:J c=d.len*d.sz)(g:i<d.len)(z:j+J Ad<=d.sz)(r:Kx w φ f Ad)(h:d.putX i (LB (d.elem i) j f)=Z n):Ci w φ n (DH c (i*d.sz+j) Ad):=by
 obtain⟨H,v,o,s⟩:=D.putX_ok h;obtain⟨Bs,y⟩:=r.get
 have b:i*d.sz+j+J Ad<=J c:=by
  have:(i+1)*d.sz<=d.len*d.sz:=Iq _ g;rw[Ft]at this;omega
 intro k G q x a;rw[kj,v,XN _ _ _ _ b];by_cases e:k=i
 ·subst e
  rw[o g,XN _ _ _ _ (by rw[D.elem_len,Bs];exact z)]at a
  by_cases m:j<=q/\q<j+J f
  ·rw[AZ m]at a
   rw[AZ O];obtain⟨u,p,C⟩:=y _ x a;exact⟨u,by rw[show k*d.sz+q-(k*d.sz+j)=q-j by omega];exact p,C⟩
  rw[AO m]at a;rw[AO O];exact l k g q x a
 rw[s k e]at a;have t:q<d.sz:=by rw[<-D.elem_len d k];exact(EA.1 a).1
 rw[AO]
 ·exact l k O q x a
 rintro⟨E,L⟩;rcases Nat.lt_or_gt_of_ne e with h|h
 ·have:(k+1)*d.sz<=i*d.sz:=Iq _ h
  rw[Ft]at this;omega
 have:(i+1)*d.sz<=k*d.sz:=Iq _ h;rw[Ft]at this;omega
theorem AF.putI_ok{w}{e b}{n}{j}{S}{c}(h:e.putI n j=Z b)(f:GI w e S c):j<3/\GI w b S (c.set j (.int .i64 n)):=by
 obtain⟨d,rfl,a⟩:=(GI.iff _ _ _).1 f;unfold AF.putI at h;split at h<;>first|cases h|skip
 ·exact⟨O,(GI.iff _ _ _).2 ⟨d,rfl,a⟩⟩
 exact⟨O,(GI.iff _ _ _).2 ⟨d,rfl,a⟩⟩
theorem AG.putI_ok{w}{s a}{n}{j}{S}{c}(h:s.putI n j=Z a)(e:Gi w s S c):j<11/\Gi w a S (c.set j (.int .i64 n)):=by
 obtain⟨k,g,Ck,Cy,d,o,q,p,rfl,l,i,m,b,f⟩:=(Gi.iff _ _ _).1 e;unfold AG.putI at h;split at h<;>first|cases h|skip
 all_goals exact⟨O,(Gi.iff _ _ _).2 ⟨k,g,Ck,Cy,d,o,q,p,rfl,l,i,m,b,f⟩⟩
theorem Ga.putI{w w'}{d t}{i j}{n}{S}{g}(v:d.putI i j n=Z t)(L:i<d.len)(r:J g=d.len*d.sz)(h:Ga w d S g)(H:∀b,S b->b<w.heap.size->w'.heap[b]? =w.heap[b]?):t.len=d.len/\t.sz=d.sz/\OO t=OO d/\j<d.sz/\Ga w' t S (g.set (i*d.sz+j) (.int .i64 n)):=by
 unfold D.putI at v;split at v<;>first|cases v|skip
 ·rename_i l
  obtain⟨y,s,C⟩:=Ds.1 v;cases C
  have f:i<J l:=L;have x:=Dz.same _ _ _ (show Dz w l S g from h) H;obtain⟨c,M,p,N,z,E⟩:=Dz.focus x i f;rw[DU f]at s;obtain⟨u,G⟩:=AF.putI_ok s p;have k:=p.len;have m:J g=J l*3:=r;refine⟨by simp[D.len],rfl,rfl,u,?_⟩
  have:=E w' y _ (λb _ _ _=>rfl) G
  have a:i*3+3<=J g:=by
   have:(i+1)*3<=J l*3:=Iq _ f;rw[Ft]at this;omega
  have e:DH g (i*3) (c.set j (.int .i64 n))=g.set (i*3+j) (.int .i64 n):=by
   rw[<-rD _ (by rw[k];exact a) (by rw[k];exact u),nc (by rw[k];exact a) (λq o=>z q (by rw[k]at o;exact o))]
  rw[e]at this;exact this
 rename_i l
 obtain⟨y,s,C⟩:=Ds.1 v;cases C
 have f:i<J l:=L;have x:=Dp.same _ _ _ (show Dp w l S g from h) H;obtain⟨c,M,p,N,z,E⟩:=Dp.focus x i f;rw[DU f]at s;obtain⟨u,G⟩:=AG.putI_ok s p;have k:=p.len;have m:J g=J l*11:=r;refine⟨by simp[D.len],rfl,rfl,u,?_⟩
 have:=E w' y _ (λb _ _ _=>rfl) G
 have a:i*11+11<=J g:=by
  have:(i+1)*11<=J l*11:=Iq _ f;rw[Ft]at this;omega
 have e:DH g (i*11) (c.set j (.int .i64 n))=g.set (i*11+j) (.int .i64 n):=by
  rw[<-rD _ (by rw[k];exact a) (by rw[k];exact u),nc (by rw[k];exact a) (λq o=>z q (by rw[k]at o;exact o))]
 rw[e]at this;exact this
theorem wh(M:BV φ ψ w0 w (Am F ρ S)){o}{g}{t:TypeId}{x y}(Q:o.op=.store t x y){a i j}{n}{d d'}(hx:g x=(AA.ea a i j d.sz).val ρ)(hy:g y=(AA.v (.int .i64 n)).val ρ)(k2:Hp P t=Z 1)(hS:S a=.Q d)(L:d.putI i j n=Z d')(hi:i<d.len):
  FG P o g w (Hk φ ψ w0 F ρ S ⟨[(a,.Q d')],[],.v undef,[i<d.len]⟩):=by
 obtain⟨hT,X⟩:=M.treeAt (id:=a) (d:=d) (by rw[hS];rfl)
 obtain⟨e,xs,S',h0,h1,h2,h3,h4⟩:=hT;have E:=h1;obtain⟨p,z⟩:=E;rcases z with⟨_,hn⟩|⟨b,s,f,T,_,hb,l,G,H,R⟩
 ·omega
 have D:Fi (ρ a) b/\¬S' b:=h2 b (by rw[T];rfl)
 obtain⟨q1,q2,q3,q4,-⟩:=Ga.putI L hi p h4 λ_ _ _=>rfl
 have aC:i*d.sz+j+1<=d.len*d.sz:=by
  have:(i+1)*d.sz<=d.len*d.sz:=Iq _ hi;rw[Ft]at this;omega
 have N:d.len*d.sz<=s*d.sz:=Iq _ l
 have m:i*d.sz+j+1<=J f.toList:=by
  have aD:J f.toList=s*d.sz:=by rw[Array.length_toList];exact H
  omega
 have q:=run_storeCells_at (P:=P) b (i*d.sz+j) e [.int .i64 n] 0 f w hb (by simpa using m) (λu hu=>by rw[Dw.1 hu];rfl)
 simp only[Fx]at q;rw[<-Tj _ _ _ (by simpa using m)]at q
 have C:(execOp g o).run P w=.ok .skip (w.setRow b (DH f.toList (i*d.sz+j) [.int .i64 n]).toArray):=by
  simp only[AA.val]at hx hy;simp[execOp,Q,hx,hy,Instr.storeAt,Instr.sureAddr,storeVar,Value.cells,Oi k2,T,Ml];rw[q];rfl
 have hk:Dl (λc=>¬((S a).res ρ a).blk c) w (w.setRow b (DH f.toList (i*d.sz+j) [.int .i64 n]).toArray):=
  ⟨rfl,rfl,rfl,At,λc _ r=>setRow_other _ _ _ _ λe=>r (by rw[hS,e];exact D.1)⟩
 have M1:BV φ ψ w0 (w.setRow b (DH f.toList (i*d.sz+j) [.int .i64 n]).toArray) (Am F ρ (Bq S [(a,.Q d')])):=by
  refine M.one a _ [] (λaB h j=>by rw[show aB=ρ from funext λk=>h k At]) (FK.refl _ _) hk (λc r=>.inl (by rw[hS];exact r)) ?_
  simp only[AI.res];refine⟨λ_ _ h hs=>h.same hs,⟨e,DH xs (i*d.sz+j) [.int .i64 n],S',by rw[q3,h0],?_,h2,h3,?_⟩,λc r=>by simpa using X c r⟩
  ·rw[q1,q2]
   refine⟨by rw[Qi,p],.inr ⟨b,s,(DH f.toList (i*d.sz+j) [.int .i64 n]).toArray,T,Di _,setRow_heap _ _ _ _ _ _ hb,l,G,?_,?_⟩⟩
   ·simp[Qi,H]
   rw[<-R];exact Yv _ _ _ _
  exact(Ga.putI L hi p h4 λc r _=>setRow_other _ _ _ _ λe=>D.2 (by rw[<-e];exact r)).2.2.2.2
 exact .inr (.inl ⟨_,C,ρ,FK.refl _ _,M1,rfl⟩)
theorem J5(M:BV φ ψ w0 w (Am F ρ S)){o}{g}{t:TypeId}{x y}(L:o.op=.store t x y){a i j sz}{m}(hx:g x=(AA.ea a i j sz).val ρ)(hy:g y=m.val ρ){r}(h:UI P S t m (.ea a i j sz)=Z r)(ho:Cl r.obs):
  FG P o g w (Hk φ ψ w0 F ρ S r):=by
 simp only[UI]at h;split at h<;>first|cases h|skip
 case h_2 d H=>
  split at h<;>first|cases h|skip
  rename_i n
  split at h
  case isFalse=>cases h
  rename_i f
  simp only[Aj,decide_eq_true_eq]at f;obtain⟨k2,rfl⟩:=f;obtain⟨X,u,hr⟩:=Ds.1 h;subst hr;simp only[Cl]at ho;exact wh M L hx hy k2 H u ho.1
 rename_i e d H
 split at h
 case isFalse=>cases h
 rename_i f
 simp only[Aj,decide_eq_true_eq]at f;obtain⟨⟨⟨k1,k2⟩,rfl⟩,k3⟩:=f;split at h<;>first|cases h|skip
 rename_i ys aG
 obtain⟨X,u,hr⟩:=Ds.1 h;subst hr;simp only[Cl]at ho;have hi:=ho.1;obtain⟨c1,c2⟩:=Wb M k1;obtain⟨xs,T,aH⟩:=M.rowAt H;have aI:=Xs M aG;obtain⟨p1,p2,p3,p4⟩:=D.putX_ok u;have aE:(AA.vals ρ m.cells).length=J m.cells:=AA.vals_length _ _;have aO:0<d.sz:=by cases d<;>simp[D.sz]
 obtain⟨N,G⟩:=T;rcases G with⟨_,hn⟩|⟨b,E,l,hv,_,hb,v,aB,aC,aF⟩
 ·omega
 have aM:i*d.sz+j+(AA.vals ρ m.cells).length<=d.len*d.sz:=by
  have:(i+1)*d.sz<=d.len*d.sz:=Iq _ hi;rw[Ft]at this;omega
 have aD:d.len*d.sz<=E*d.sz:=Iq _ v
 have z:i*d.sz+j+(AA.vals ρ m.cells).length<=J l.toList:=by
  have aN:J l.toList=E*d.sz:=by rw[Array.length_toList];exact aC
  omega
 have C:=run_storeCells_at (P:=P) b (i*d.sz+j) e (AA.vals ρ m.cells) 0 l w hb (by simpa using z) c2
 simp only[Fx]at C;rw[<-Tj _ _ _ z]at C
 have Q:(execOp g o).run P w=.ok .skip (w.setRow b (DH l.toList (i*d.sz+j) (AA.vals ρ m.cells)).toArray):=by
  simp[execOp,L,hx,hy,AA.val,Instr.storeAt,Instr.sureAddr,storeVar,c1,Oi k2,AA.vals_length,hv,Fe,Ml];rw[C];rfl
 have R:∀c,((S a).res ρ a).blk c↔c=b:=λc=>by
  rw[H];simp only[AI.res,Bv.blk,hv,Value.ownBlock,Option.some.injEq];exact⟨λh=>h.symm,λh=>h.symm⟩
 have hk:Dl (λc=>¬((S a).res ρ a).blk c) w (w.setRow b (DH l.toList (i*d.sz+j) (AA.vals ρ m.cells)).toArray):=
  ⟨rfl,rfl,rfl,At,λc _ f=>setRow_other _ _ _ _ λe=>f ((R c).2 e)⟩
 have aL:∀c,EY φ (Am F ρ S) c->EY φ (Am F ρ (Bq S [(a,.L e X)])) c:=λc f=>⟨f.1,λk p=>by
  cases k with
  |inl i=>exact f.2 (.inl i) p
  | inr q =>
   by_cases eq:q=a
   ·subst eq
    simp only[Am,Bq,if_true]at p;refine f.2 (.inr q) ?_;simp only[Am];rw[H];exact p
   simp only[Am,Bq,AO eq]at p
   exact f.2 (.inr q) p⟩
 have M1:BV φ ψ w0 (w.setRow b (DH l.toList (i*d.sz+j) (AA.vals ρ m.cells)).toArray) (Am F ρ (Bq S [(a,.L e X)])):=by
  refine M.one a _ [] (λaJ h j=>by rw[show aJ=ρ from funext λk=>h k At]) (FK.refl _ _) hk (λc f=>.inl (by rw[H];exact f)) ?_
  simp only[AI.res];refine⟨λxs=>Ci.nice X xs,DH xs (i*d.sz+j) (AA.vals ρ m.cells),?_,?_⟩
  ·rw[p1,p2]
   refine⟨by rw[Qi,N],.inr ⟨b,E,(DH l.toList (i*d.sz+j) (AA.vals ρ m.cells)).toArray,hv,Di _,setRow_heap _ _ _ _ _ _ hb,v,aB,?_,?_⟩⟩
   ·simp[Qi,aC]
   rw[<-aF];exact Yv _ _ _ _
  refine Ci.nice X _ _ _ _ _ ⟨hk.size,λc f hf=>⟨aL c hf,hk.block c f λhe=>hf.2 (.inr a) he⟩⟩ ?_
  exact Ci.put aH N hi (by rw[aE];exact k3) aI u
 exact .inr (.inl ⟨_,Q,ρ,FK.refl _ _,M1,rfl⟩)
theorem yI(M:BV φ ψ w0 w (Am F ρ S)){o}{g}{t:TypeId}{x y}(e:o.op=.store t x y){n d}(v:g x=n.val ρ)(u:g y=d.val ρ){r}(h:UI P S t d n=Z r)(H:Cl r.obs):
  FG P o g w (Hk φ ψ w0 F ρ S r):=by
 cases n
 case ea a i j X=>exact J5 M e v u h H
 all_goals (simp only[UI]at h)
 all_goals first|cases h|skip
 rename_i a b
 split at h<;>first|cases h|skip
 rename_i m q
 split at h
 case isFalse=>cases h
 rename_i z
 simp only[Aj,decide_eq_true_eq]at z;obtain⟨⟨C,R⟩,k3⟩:=z;cases h
 obtain⟨L,Q⟩:=Wb M C;obtain⟨T,s⟩:=M.boxAt q;have c:=run_storeCells_at (P:=P) (KF (ρ a)) b T (AA.vals ρ d.cells) 0 _ w s (by simp[AA.vals_length];omega) Q
 obtain⟨D,E⟩:=Dl.setRow' (cs':=DH (AA.vals ρ m) b (AA.vals ρ d.cells)) s;simp only[Fx]at c;rw[<-Tj _ _ _ (by simp[AA.vals_length];omega)]at c
 have f:(execOp g o).run P w=.ok .skip (w.setRow (KF (ρ a)) (DH (AA.vals ρ m) b (AA.vals ρ d.cells)).toArray):=by
  simp[execOp,e,v,u,AA.val,Instr.storeAt,Instr.sureAddr,storeVar,L,Oi R,AA.vals_length];rw[c];rfl
 have G:BV φ ψ w0 (w.setRow (KF (ρ a)) (DH (AA.vals ρ m) b (AA.vals ρ d.cells)).toArray) (Am F ρ (Bq S [(a,.C (LB m b d.cells))])):=
  M.one a _ [] (λp h j=>by rw[show p=ρ from funext λk=>h k At]) (FK.refl _ _) (by rw[q];exact D) (λg N=>.inl (by rw[q];exact N)) (by simp only[AI.res,AA.vals_setL];exact E)
 exact .inr (.inl ⟨_,f,ρ,FK.refl _ _,G,rfl⟩)
theorem I7(M:BV φ ψ w0 w (Am F ρ S)){o}{g}{t:TypeId}{b}{v}(d:(execOp g o).run P w=.ok (.value (.pointer (Z ⟨w.heap.size,0,I⟩))) (w.alloc (.cells v.cells t)))(p:v=b.val ρ){id}{r}(h:fR S id b=Z r)(c:∀j∈r.made,S j=.none)(s:FV S ρ r.made):
  FG P o g w (Hk φ ψ w0 F ρ S r):=by
 unfold fR at h;split at h
 case isFalse=>cases h
 rename_i l
 cases h
 obtain⟨u,_⟩:=Wb M l;have n:S id=.none:=c id At
 have f:FK [id] ρ (λj=>if j=id then .pointer (Z ⟨w.heap.size,0,I⟩)else ρ j):=λj q=>by
  have:j≠id:=by simpa using q
  simp[this]
 refine .inl ⟨_,_,d,_,f,M.one id _ [id] s f (Dl.any ((Below.refl _ _).alloc (BR _) _)) (λg i=>?_) ?_,?_⟩
 ·simp only[AI.res,if_true,KF]at i
  exact .inr (by rw[show g=w.heap.size from i];exact BR _)
 ·simp only[AI.res,if_true,KF,Bv.holds]
  have e:AA.vals (λj=>if j=id then .pointer (Z ⟨w.heap.size,0,I⟩)else ρ j) b.cells=AA.vals ρ b.cells:=AA.vals_congr _ λk m=>by
   have:k≠id:=λe=>P9 n l (e▸m)
   simp[this]
  rw[e,p,u];exact Bl.new _ _ _
 simp[AA.val,KF]
end
def D.nil:Nat->Option D
 |1=>Z (.C [])
 |2=>Z (.bools [])
 |3=>Z (.bytes [])
 |4=>Z (.strs [])
 |5=>Z (.N [])
 |6=>Z (.E [])
 |7=>Z (.L [])
 |8=>Z (.brows [])
 |9=>Z (.P [])
 |10=>Z (.M [])
 |_=>I
theorem D.nil_len{k}{d}(h:D.nil k=Z d):d.len=0:=by
 unfold D.nil at h;split at h<;>first|(cases h;rfl)|cases h
def PN(S:Nat->AI)(k:Nat):AA->Option D
 |.N id=>match S id with
  |.G d=>Z d
  |_=>I
 |.v (.slice I 0 0)=>D.nil k
 |_=>I
def jt(S:Nat->AI)(k:Nat):AA->Option D
 |.N id=>Mv (S id)
 |.v (.slice I 0 0)=>D.nil k
 |_=>I
def iS(S:Nat->AI)(k:Nat)(l:List AA):Option (D×List Prop):=
 match k,l with
 |1,[.v (.int .i64 n)]=>Z (.C [n],[])
 |2,[.v (.bool b)]=>Z (.bools [b],[])
 |3,[.v (.int .u8 n)]=>Z (.bytes [UInt8.ofNat n.toNat],[0<=n,n<256])
 |4,[.v (.string s)]=>Z (.strs [s],[])
 |5,[.v (.int .i64 o),.v (.int .i64 a),.v (.int .i64 b),.v (.int .i64 c),.v (.int .i64 d)]=>Z (.N [⟨o,a,b,c,d⟩],[])
 |6,[.v (.int .i64 a),.v (.int .i64 b)]=>Z (.E [(a,b)],[])
 |7,[x]=>match PN S 1 x with
  |some (.C l)=>Z (.L [l],[])
  |_=>I
 |8,[x]=>match PN S 2 x with
  |some (.bools l)=>Z (.brows [l],[])
  |_=>I
 |9,[.v (.int .i64 a),.v (.int .i64 b),x]=>match PN S 9 x with
  |some (.P l)=>Z (.P [⟨a,b,l⟩],[])
  |_=>I
 |10,[.v (.int .i64 a),.v (.int .i64 b),.v (.int .i64 c),.v (.int .i64 d),x,.v (.int .i64 e),.v (.int .i64 f),y,.v (.int .i64 g),z,u]=>
  match PN S 9 x,PN S 9 y,PN S 10 z,PN S 10 u with
  |some (.P x),Z (.P y),Z (.M z),Z (.M u)=>Z (.M [⟨a,b,⟨c,d,x⟩,⟨e,f,y⟩,g,z,u⟩],[])
  |_,_,_,_=>I
 |_,_=>I
def D.app:D->D->Option D
 |.C a,.C b=>Z (.C (a++b))
 |.bools a,.bools b=>Z (.bools (a++b))
 |.bytes a,.bytes b=>Z (.bytes (a++b))
 |.strs a,.strs b=>Z (.strs (a++b))
 |.N a,.N b=>Z (.N (a++b))
 |.E a,.E b=>Z (.E (a++b))
 |.L a,.L b=>Z (.L (a++b))
 |.brows a,.brows b=>Z (.brows (a++b))
 |.P a,.P b=>Z (.P (a++b))
 |.M a,.M b=>Z (.M (a++b))
 |_,_=>I
theorem zW{c:Type}(a b:List c)(z:c)(i):(a++b).getD i z=if i<(J a)then a.getD i z else b.getD (i-J a) z:=by
 split
 ·rename_i h;simp[Bu,Fb h]
 rename_i h;simp[Bu,Ip (Nat.le_of_not_lt h)]
theorem OD{c:Type}(f:c->List X)(a b:List c)(z:c)(i):f ((a++b).getD i z)=if i<(J a)then f (a.getD i z)else f (b.getD (i-J a) z):=by rw[zW];split<;>rfl
theorem D.app_ok{a b d:D}(h:a.app b=Z d):d.len=a.len+b.len/\d.sz=a.sz/\b.sz=a.sz/\∀i,d.elem i=if i<a.len then a.elem i else b.elem (i-a.len):=by
 cases a<;>cases b<;>simp only[D.app]at h<;>first|cases h|skip
 ·exact⟨by simp[D.len],rfl,rfl,λi=>OD (λx=>[.v (.int .i64 x)]) _ _ _ _⟩
 ·exact⟨by simp[D.len],rfl,rfl,λi=>OD (λx=>[.v (.bool x)]) _ _ _ _⟩
 ·exact⟨by simp[D.len],rfl,rfl,λi=>OD (λx:UInt8=>[.v (.int .u8 (x.toNat:Int))]) _ _ _ _⟩
 ·exact⟨by simp[D.len],rfl,rfl,λi=>OD (λx=>[.v (.string x)]) _ _ _ _⟩
 ·exact⟨by simp[D.len],rfl,rfl,λi=>OD Sm _ _ _ _⟩
 ·exact⟨by simp[D.len],rfl,rfl,λi=>OD SH _ _ _ _⟩
 ·exact⟨by simp[D.len],rfl,rfl,λi=>OD (λx=>[.sl (.C x)]) _ _ _ _⟩
 ·exact⟨by simp[D.len],rfl,rfl,λi=>OD (λx=>[.sl (.bools x)]) _ _ _ _⟩
 ·exact⟨by simp[D.len],rfl,rfl,λi=>OD RJ _ _ _ _⟩
 exact⟨by simp[D.len],rfl,rfl,λi=>OD Sh _ _ _ _⟩
section
variable{P:Program}{ι:Type}{φ ψ:Nat->Prop}{w0 w w':World}{F:ι->Bv}{ρ:Nat->Value}{S:Nat->AI}
theorem Ci.append{φ}{a b d}{f m}(h:a.app b=Z d)(t:J f=a.len*a.sz)(o:Ci w φ a f)(p:Ci w φ b m):Ci w φ d (f++m):=by
 obtain⟨v,s,n,q⟩:=D.app_ok h;intro i y j x g;rw[q]at g;rw[s];split at g
 ·rename_i k
  obtain⟨u,c,l⟩:=o i k j x g;refine⟨u,?_,l⟩;rw[Fb ((EA.1 c).1)];exact c
 rename_i r
 obtain⟨u,c,l⟩:=p (i-a.len) O j x g;refine⟨u,?_,l⟩
 have e:i*a.sz+j=J f+((i-a.len)*a.sz+j):=by
  rw[t, <-Nat.add_assoc, <-Nat.add_mul];congr 2;omega
 rw[e,Ip O,Nat.add_sub_cancel_left, <-c,n]
theorem Ci.nil{φ}{d}(h:d.len=0)(a):Ci w φ d a:=λi b=>O
theorem EK.nil{φ}{k}{d}(h:D.nil k=Z d):EK w φ d (.slice I 0 0):=by
 have a:=D.nil_len h;refine EK.make (xs:=[]) ?_ (Ci.nil a _);rw[a];exact CV.nil _ _ _
theorem Rs(M:BV φ ψ w0 w (Am F ρ S)){k}{x}{d}(h:PN S k x=Z d):EK w (EY φ (Am F ρ S)) d (x.val ρ):=by
 unfold PN at h;split at h<;>first|cases h|skip
 ·split at h<;>first|cases h|skip
  rename_i id _ a
  exact M.datAt a
 exact EK.nil h
theorem OC{φ}{d}{a}(c:d.len=1)(h:∀(j:Nat) x,(d.elem 0)[j]? =Z x->∃u,a[j]? =Z u/\IH w φ x u):Ci w φ d a:=by
 intro i e j x b;have:i=0:=O;subst this;rw[Nat.zero_mul,GS];exact h j x b
theorem Gq{φ}{x}{r}{u}{s}(h:IH w φ x u)(b:∀(j:Nat) y,r[j]? =Z y->∃v,s[j]? =Z v/\IH w φ y v):∀(j:Nat) y,(x::r)[j]? =Z y->∃v,(u::s)[j]? =Z v/\IH w φ y v:=by
 intro j y a;cases j with
 |zero=>simp at a;subst a;exact⟨u,rfl,h⟩
 |succ j=>simpa using b j y (by simpa using a)
theorem Ns{φ}{s:List Value}:∀(j:Nat) y,([]:List X)[j]? =Z y->∃v,s[j]? =Z v/\IH w φ y v:=by intro j y h;simp at h
theorem Y6(M:BV φ ψ w0 w (Am F ρ S)){k}{l}{d}{b}(h:iS S k l=Z (d,b))(f:Cl b):d.len=1/\d.sz=J l/\Ci w (EY φ (Am F ρ S)) d (AA.vals ρ l):=by
 unfold iS at h;split at h<;>first|cases h|skip
 ·exact⟨rfl,rfl,OC rfl (Gq rfl Ns)⟩
 ·exact⟨rfl,rfl,OC rfl (Gq rfl Ns)⟩
 ·rename_i n
  simp only[Cl]at f;refine⟨rfl,rfl,OC rfl (Gq ?_ Ns)⟩;show Value.int .u8 n=Value.int .u8 ((UInt8.ofNat n.toNat).toNat:Int);congr 1;have:(UInt8.ofNat n.toNat).toNat=n.toNat:=by simp[UInt8.toNat_ofNat'];omega
  rw[this];omega
 ·exact⟨rfl,rfl,OC rfl (Gq rfl Ns)⟩
 ·exact⟨rfl,rfl,OC rfl (Gq rfl (Gq rfl (Gq rfl (Gq rfl (Gq rfl Ns)))))⟩
 ·exact⟨rfl,rfl,OC rfl (Gq rfl (Gq rfl Ns))⟩
 ·split at h<;>first|cases h|skip
  rename_i a
  exact⟨rfl,rfl,OC rfl (Gq (Rs M a) Ns)⟩
 ·split at h<;>first|cases h|skip
  rename_i a
  exact⟨rfl,rfl,OC rfl (Gq (Rs M a) Ns)⟩
 ·split at h<;>first|cases h|skip
  rename_i a
  exact⟨rfl,rfl,OC rfl (Gq rfl (Gq rfl (Gq (Rs M a) Ns)))⟩
 split at h<;>first|cases h|skip
 rename_i a c e g
 exact⟨rfl,rfl,OC rfl (Gq rfl (Gq rfl (Gq rfl (Gq rfl (Gq (Rs M a) (Gq rfl (Gq rfl (Gq (Rs M c) (Gq rfl (Gq (Rs M e) (Gq (Rs M g) Ns)))))))))))⟩
def UR(S:Nat->AI)(k:Nat):List (List AA)->Option (D×List Prop)
 |[]=>(D.nil k).map λd=>(d,[])
 |c::r=>
  match iS S k c,UR S k r with
  |some (a,f),Z (b,e)=>(a.app b).map λd=>(d,f++e)
  |_,_=>I
theorem lX(M:BV φ ψ w0 w (Am F ρ S)){k n}:∀{l:List (List AA)} {d:D} {e:List Prop},UR S k l=Z (d,e)->Cl e->(∀c∈l,J c=n)->d.len=J l/\(l=[]\/d.sz=n)/\Ci w (EY φ (Am F ρ S)) d (AA.vals ρ l.flatten)
 |[],d,e,h,_,_=>by
  simp only[UR,Ds]at h;obtain⟨q,f,g⟩:=h;cases g
  exact⟨D.nil_len f,.inl rfl,Ci.nil (D.nil_len f) _⟩
 |c::r,d,e,h,j,o=>by
  simp only[UR]at h;split at h
  case h_2=>cases h
  rename_i a z b L f g
  obtain⟨q,m,v⟩:=Ds.1 h;cases v
  rw[Cl.append]at j;obtain⟨s,p,t⟩:=Y6 M f j.1;obtain⟨C,y,x⟩:=lX M g j.2 λc i=>o c (Ep _ i)
  obtain⟨H,u,G,E⟩:=D.app_ok m;have i:=o c EI;refine⟨CY,.inr (by rw[u,p,i]),?_⟩
  rw[List.flatten_cons,AA.vals_append];exact Ci.append m (by rw[AA.vals_length,s,Nat.one_mul,p]) t x
def PT(e:Operand->Option AA)(S:Nat->AI)(n:Nat):Nat->List (Nat×Operand)->Option (List (List AA))
 |_,[]=>Z []
 |k,(i,x)::r=>
  match e x with
  |some v=>if i=k&&(J v.cells)=n&&MT S v then(PT e S n (k+1) r).map λl=>v.cells::l else I
  |none=>I
theorem gk{e}{n}:∀{d:List (Nat×Operand)} {k:Nat} {l:List (List AA)},PT e S n k d=Z l->J l=J d/\∀c∈l,J c=n
 |[],k,l,h=>by simp only[PT,Option.some.injEq]at h;subst h;exact⟨rfl,λc b=>by cases b⟩
 |(i,x)::r,k,l,h=>by
  simp only[PT]at h;split at h
  case h_2=>cases h
  rename_i v p
  split at h
  case isFalse=>cases h
  rename_i b
  obtain⟨m,g,j⟩:=Ds.1 h;subst j;obtain⟨f,o⟩:=gk g;simp only[Aj,decide_eq_true_eq]at b;refine⟨by simp[f],λc a=>?_⟩
  rcases Eb.1 a with rfl|a
  ·exact b.1.2
  exact o c a
theorem C0:∀Ad a b p,J a=p->J Ad<=J b->DH (a++b) p Ad=a++(Ad++b.drop (J Ad))
 |Ad,a,b,p,h,c=>by
  subst h;rw[Tj _ _ _ CY];simp[List.drop_append]
theorem hZ(M:BV φ ψ w0 w (Am F ρ S)){e}{g:Operand->Value}{n}:∀j k l a b,PT e S n k j=Z l->(∀p∈j,∀v,e p.2=Z v->g p.2=v.val ρ)->J a=k*n->J b=J j*n->
  Instr.fill (λi=>Z (i*n,n)) (a++b).toArray (j.map λp=>(p.1,g p.2))=Z (a++AA.vals ρ l.flatten).toArray
 |[],k,l,a,b,h,_,_,s=>by
  simp only[PT,Option.some.injEq]at h;subst h;have:b=[]:=FM (by simpa using s)
  subst this;simp[Instr.fill,AA.vals]
 |(i,x)::r,k,l,a,b,h,t,y,s=>by
  simp only[PT]at h;split at h
  case h_2=>cases h
  rename_i v z
  split at h
  case isFalse=>cases h
  rename_i u
  obtain⟨m,E,G⟩:=Ds.1 h;subst G;simp only[Aj,decide_eq_true_eq]at u;obtain⟨⟨rfl,H⟩,q⟩:=u;obtain⟨D,_⟩:=Wb M q;have c:(AA.vals ρ v.cells).length=n:=by rw[AA.vals_length,H]
  have d:=t (i,x) EI v z;simp only at d;simp only[BK,Ft]at s;simp only[Fa,Instr.fill];rw[d,D];have f:=dw (AA.vals ρ v.cells) 0 (i*n) (a++b).toArray;simp only[Fx]at f;rw[C0 _ _ _ _ y O]at f;have C:=hZ M r (i+1) m (a++AA.vals ρ v.cells) (b.drop n) E (λp o=>t p (Ep _ o)) (by rw[Az,y,c,Ft]) (by rw[List.length_drop];omega)
  rw[List.flatten_cons,AA.vals_append, <-Fj, <-C];simp only[List.size_toArray,c,Az];rw[AO CY];congr 1;rw[Fj];rw[c]at f;rw[<-f];simp[Array.zipIdx,List.mapIdx_eq_zipIdx_map]
theorem BV.newRow(M:BV φ ψ w0 w (Am F ρ S)){id}{e:TypeId}{d}{v}{f}(h:Below w.heap.size w w')(u:S id=.none)(r:FV S ρ [id])(o:w'.ownsRow w.heap.size e d.sz v d.len f)(s:Ci w (EY φ (Am F ρ S)) d f):
  ∃a,FK [id] ρ a/\BV φ ψ w0 w' (Am F a (Bq S [(id,.L e d)]))/\v=a id:=by
 have l:FK [id] ρ (λj=>if j=id then v else ρ j):=λj t=>by
  have:j≠id:=by simpa using t
  simp[this]
 refine⟨_,l,M.one id _ [id] r l (Dl.any h) (λg p=>?_) ?_,At⟩
 ·simp only[AI.res,if_true]at p
  exact .inr (o.lt g p).1
 simp only[AI.res,if_true];refine⟨λf=>Ci.nice d f,f,KX o (Di _),?_⟩
 refine Ci.nice d f _ _ _ _ ⟨h.size,λb m n=>⟨⟨n.1,λk c=>?_⟩,h.block b m⟩⟩ s
 cases k with
 |inl i=>exact n.2 (.inl i) c
 | inr j =>
  by_cases q:j=id
  ·subst q
   simp only[Am,Bq,if_true,AI.res]at c;have:=(o.lt b c).1;omega
  simp only[Am,Bq,AO q]at c;rw[r _ l j]at c;exact n.2 (.inr j) c
end
def TT(P:Program)(t:TypeId):Option Nat:=(P.info? t).map (·.bytes)
def Zx(P:Program)(d:TypeId->Nat)(e:Operand->Option AA)(S:Nat->AI)(id:Nat)(t:TypeId)(b:Nat)(a:List (Nat×Operand)):Option Ht:=
 match Lo P t with
 |none=>I
 | some c =>
  match Hp P c,JT P c,D.nil (d c)with
  | some n, Z z, Z f =>
   if 0<n&&z.cells.size=n&&f.sz=n&&b=(J a)&&b*n<=16777216 then
    match PT e S n 0 a with
    |some l=>(UR S (d c) l).map λr=>⟨[(id,.L c r.1)],[id],.N id,r.2⟩
    |none=>I
   else I
  |_,_,_=>I
def dn(k n:Nat):Option (D×Value):=
 match k with
 |1=>Z (.C (Ac n 0),.int .i64 0)
 |2=>Z (.bools (Ac n U),.bool U)
 |3=>Z (.bytes (Ac n 0),.int .u8 0)
 |7=>Z (.L (Ac n []),.slice I 0 0)
 |8=>Z (.brows (Ac n []),.slice I 0 0)
 |_=>I
def ir(P:Program)(e:TypeId->Nat)(id:Nat)(t:TypeId)(l c:AA):Option Ht:=
 match l,c,Lo P t with
 |.v (.int .i64 n),.v (.int .i64 m),Z a=>
  match dn (e a) n.toNat,TT P a,Hp P a,JT P a with
  |some (d,z),Z b,Z g,Z f=>if g=1 then Z ⟨[(id,.L a d)],[id],.N id,[m=n,0<=n,b*n<=281474976710656,n<=9223372036854775807,f=z]⟩else I
  |_,_,_,_=>I
 |_,_,_=>I
def jH(P:Program)(g:TypeId->Nat)(S:Nat->AI)(id:Nat)(t h:TypeId)(s x:AA):Option Ht:=
 if t=h then
  match Lo P t with
  |none=>I
  | some b =>
   match jt S (g b) x,TT P b,Hp P b,JT P b with
   | some c, Z e, Z n, Z z =>
    if 0<n&&z.cells.size=n&&c.sz=n then
     match s with
     |.N a=>match S a with
      |.L i f=>if i=b then(f.app c).map λd=>⟨[(a,.E),(id,.L b d)],[id],.N id,[f.len+c.len<=9223372036854775807,(f.len+c.len)*e<=140737488355328]⟩else I
      |_=>I
     |.v (.slice I 0 0)=>Z ⟨[(id,.L b c)],[id],.N id,[c.len<=9223372036854775807,c.len*e<=140737488355328]⟩
     |_=>I
    else I
   |_,_,_,_=>I
 else I
def ce(P:Program)(S:Nat->AI)(id:Nat)(t:TypeId)(x:AA)(c b:Option AA):Option Ht:=
 match x with
 | .N a => match S a, (Lo P t).bind (Hp P) with
  | .G d, Z n =>
   if n=d.sz then
    match c,b with
    |none,I=>Z ⟨[(id,.G (d.sub 0 d.len))],[id],.N id,[]⟩
    |none,Z (.v (.int _ h))=>Z ⟨[(id,.G (d.sub 0 h.toNat))],[id],.N id,[0<=h,h<=(d.len:Int)]⟩
    |some (.v (.int _ l)),I=>Z ⟨[(id,.G (d.sub l.toNat d.len))],[id],.N id,[0<=l,l<=(d.len:Int)]⟩
    |some (.v (.int _ l)),Z (.v (.int _ h))=>Z ⟨[(id,.G (d.sub l.toNat h.toNat))],[id],.N id,[0<=l,l<=h,h<=(d.len:Int)]⟩
    |_,_=>I
   else I
  |_,_=>I
 | .v (.string s) => match P.underlying t with
  |some .string=>
   match c,b with
   |none,Z (.v (.int _ h))=>Z ⟨[],[],.v (.string (s.extract 0 h.toNat)),[0<=h,h<=(s.size:Int)]⟩
   |some (.v (.int _ l)),I=>Z ⟨[],[],.v (.string (s.extract l.toNat s.size)),[0<=l,l<=(s.size:Int)]⟩
   |some (.v (.int _ l)),Z (.v (.int _ h))=>Z ⟨[],[],.v (.string (s.extract l.toNat h.toNat)),[0<=l,l<=h,h<=(s.size:Int)]⟩
   |_,_=>I
  |_=>I
 |_=>I
section
variable{P:Program}{ι:Type}{φ ψ:Nat->Prop}{w0 w w':World}{F:ι->Bv}{ρ:Nat->Value}{S:Nat->AI}
theorem mK(M:BV φ ψ w0 w (Am F ρ S)){dk:TypeId->Nat}{o}{e}{g}{t:TypeId}{b}{a}(L:o.op=.buildSlice t b a)(hg:∀p∈a.toList,∀v,e p.2=Z v->g p.2=v.val ρ){id}{r}(h:Zx P dk e S id t b a.toList=Z r)(ho:Cl r.obs)(T:∀j∈r.made,S j=.none)(hi:FV S ρ r.made):
  FG P o g w (Hk φ ψ w0 F ρ S r):=by
 unfold Zx at h;split at h<;>first|cases h|skip
 rename_i D aB
 split at h<;>first|cases h|skip
 rename_i n z d0 h1 h2 h3
 split at h
 case isFalse=>cases h
 rename_i H
 simp only[Aj,decide_eq_true_eq]at H;obtain⟨⟨⟨⟨hn,hz⟩,X⟩,k⟩,y⟩:=H;split at h
 case h_2=>cases h
 rename_i l hl
 obtain⟨⟨d,aJ⟩,N,h5⟩:=Ds.1 h;subst h5;obtain⟨k1,k2⟩:=gk hl;obtain⟨m1,u,m3⟩:=lX M N ho k2
 have aE:d.sz=n:=by
  rcases u with u|u
  ·subst u
   simp only[UR,h3,Option.map_some,Option.some.injEq,Prod.mk.injEq]at N;rw[<-N.1,X]
  exact u
 have hS:S id=.none:=T id At;obtain⟨Q,s,f⟩:=Ds.1 h1
 have aF:Q.zero=Z z:=by
  unfold JT at h2;rw[s]at h2;exact h2
 have hu:=Pf aB;have E:d.len=b:=by rw[m1,k1,k]
 have aG:(AA.vals ρ l.flatten).length=b*n:=by
  have:∀(l:List (List AA)),(∀c∈l,J c=n)->J l.flatten=J l*n:=by
   intro l;induction l with
   |nil=>intro _;simp
   |cons c r ih=>intro h;rw[List.flatten_cons,Az,ih λc H=>h c (Ep _ H),h c EI,BK,Ft];omega
  rw[AA.vals_length,this l k2,k1,k]
 have C:(Instr.buildSlice t b (a.map λp=>(p.1,g p.2))).run P w=.ok (.slice (Z ⟨w.heap.size,0,I⟩) b b) (w.alloc (.cells (AA.vals ρ l.flatten).toArray D)):=by
  rcases Nat.eq_zero_or_pos b with h0|h0
  ·have aI:a.toList=[]:=FM O
   have aC:l=[]:=FM O;subst aC;have aH:a= #[]:=by apply Array.ext';simpa using aI
   subst aH;subst h0;have R:Array.range 0= #[]:=rfl;simp[Instr.buildSlice,run_underlying hu,sizeOf,typeInfo,s,Instr.fill,newRow,AA.vals,R]
  refine run_buildSlice w t D b _ _ Q z hu s aF (by rw[f];omega) (by rw[f];have:=Nat.mul_pos h0 hn;omega) ?_
  have hf:=hZ M a.toList 0 l [] (((Array.range (b*Q.size)).map (z.cells[· %z.cells.size]!)).toList) hl hg At (by simp[f,k])
  rw[f]at hf ⊢;simp only[List.nil_append,Array.toArray_toList]at hf;simpa using hf
 have aL:b<=16777216:=DO (Nat.le_mul_of_pos_right b hn) y;have m:=(NH w (AA.vals ρ l.flatten).toArray b n D rfl (by simpa using aG) O).1
 rw[<-E, <-aE]at m;obtain⟨aD,q1,q2,q3⟩:=M.newRow (id:=id) (e:=D) (d:=d) ((Below.refl _ _).alloc (BR _) _) hS hi m (by simpa using m3)
 have q:(execOp g o).run P w=.ok (.value (.slice (Z ⟨w.heap.size,0,I⟩) b b)) (w.alloc (.cells (AA.vals ρ l.flatten).toArray D)):=by
  simp only[execOp,L,Sem.run_bind];rw[show(a.map fun(i,x)=>(i,g x))=a.map λp=>(p.1,g p.2)from rfl,C]
  rfl
 exact .inl ⟨_,_,q,aD,q1,q2,by simp only[AA.val];rw[<-q3,E]⟩
theorem Z9{φ}{d}{v}(h:EK w φ d v):v.oneCell'=true:=by
 obtain⟨a,b,rfl,_⟩:=h.open;rfl
theorem G0(d:D)(i j:Nat)(x)(h:(d.elem i)[j]? =Z (.v x)):x.oneCell'=true:=by
 have:∀y∈d.elem i,∀x,y=.v x->x.oneCell'=true:=by
  intro y a x b;subst b;cases d<;>simp[D.elem,Sm,SH,RJ,Sh]at a<;>(try rcases a with rfl|rfl|rfl|rfl|rfl|rfl|rfl)<;>first|rfl|(subst a;rfl)|(rcases a with rfl|rfl|rfl|rfl|rfl<;>rfl)|(rcases a with rfl|rfl<;>rfl)
 exact this _ (FF h) x rfl
theorem pj{φ}{d}{c}(l:J c=d.len*d.sz)(h:Ci w φ d c):∀u∈c,u.oneCell'=true:=by
 intro u k;obtain⟨p,i⟩:=List.mem_iff_getElem?.1 k;have a:=(EA.1 i).1;have j:0<d.sz:=by cases d<;>simp[D.sz]
 have m:p/d.sz<d.len:=by rw[l]at a;exact Nat.div_lt_of_lt_mul (by rw[Nat.mul_comm];exact a)
 have g:p%d.sz<(d.elem (p/d.sz)).length:=by rw[D.elem_len];exact Nat.mod_lt _ j
 obtain⟨v,f,b⟩:=h _ m _ _ (CF g);rw[Nat.mul_comm,Nat.div_add_mod,i]at f;cases f
 cases e:(d.elem (p/d.sz))[p%d.sz]with
 |v x=>
  rw[e]at b;rw[show u=x from b];exact G0 d _ _ x (by rw[CF g,e])
 |sl n=>rw[e]at b;exact Z9 (show EK _ _ _ _ from b)
theorem uh(M:BV φ ψ w0 w (Am F ρ S)){k}{x}{d}(h:jt S k x=Z d):∃b,Cd w (x.val ρ) d.len d.sz b/\Ci w (EY φ (Am F ρ S)) d b:=by
 unfold jt at h;split at h<;>first|cases h|skip
 ·rename_i id
  cases a:S id with
  |G j=>
   rw[a]at h;cases h;obtain⟨b,c,f⟩:=(M.datAt a).split;exact⟨b,c.L,f⟩
  |L e j=>
   rw[a]at h;cases h;obtain⟨b,c,f⟩:=M.rowAt a;exact⟨b,Tm c,f⟩
  |none=>rw[a]at h;cases h
  |E=>rw[a]at h;cases h
  |C m=>rw[a]at h;cases h
  |Q d=>rw[a]at h;cases h
  |kept e d=>rw[a]at h;cases h
  |H k i l=>rw[a]at h;cases h
  |err=>rw[a]at h;cases h
 refine⟨[],?_,Ci.nil (D.nil_len h) _⟩;rw[D.nil_len h];exact Cd.nil _ _
theorem BV.move(M:BV φ ψ w0 w (Am F ρ S)){a id}{e:TypeId}{d1 d}{v}{xs}(t:S a=.L e d1)(r:S id=.none)(hi:FV S ρ [id])(C:Dl (λb=>¬(ρ a).ownBlock=Z b) w w')
  (T:w'.ownsRow 0 e d.sz v d.len xs) (hx:Ci w (EY φ (Am F ρ S)) d xs) (L:∀g,v.ownBlock=Z g->(ρ a).ownBlock=Z g\/w.heap.size<=g):
  ∃p,FK [id] ρ p/\BV φ ψ w0 w' (Am F p (Bq S [(a,.E),(id,.L e d)]))/\v=p id:=by
 have z:id≠a:=λh=>by rw[h,t]at r;cases r
 have H:FK [id] ρ (λj=>if j=id then v else ρ j):=λj X=>by
  have:j≠id:=by simpa using X
  simp[this]
 have R:BV φ ψ w0 w' (λk:ι ⊕ Nat=>match k with|.inl i=>F i|.inr j=>if j=a then .L e d.sz v d.len (λxs w φ=>Ci w φ d xs)else(S j).res ρ j):=by
  refine BV.put M (.inr a) (λk l=>?_) ?_ ?_ ?_
  ·cases k with
   |inl i=>rfl
   |inr j=>
    have:j≠a:=λe=>l (by rw[e])
    simp[Am,this]
  ·simp only[Am,t,AI.res];exact C
  ·simp only[if_true]
   refine⟨λxs=>Ci.nice d xs,xs,T,Ci.nice d xs _ _ _ _ ⟨C.size,λb Q u=>⟨⟨u.1,λk l=>?_⟩,C.block b Q λhe=>by have:=u.2 (.inr a);simp only[Am,t,AI.res]at this;exact this he⟩⟩ hx⟩
   cases k with
   |inl i=>exact u.2 (.inl i) l
   | inr j =>
    by_cases N:j=a
    ·subst N
     simp only[if_true]at l;have c:=u.2 (.inr j);simp only[Am,t,AI.res]at c;rcases L b l with D|D
     ·exact c D
     omega
    simp only[AO N]at l;exact u.2 (.inr j) l
  intro g s;simp only[if_true]at s;simp only[Am,t,AI.res];exact L g s
 refine⟨_,H,?_,At⟩;refine R.map (λk:ι ⊕ Nat=>(match k with|.inl i=>Z (.inl i)|.inr j=>if j=id then Z (.inr a)else if j=a then I else Z (.inr j):Option (ι ⊕ Nat))) ?_ ?_
 ·intro k E i f c
  cases k with
  |inl x=>
   cases E with
   |inl y=>simp at f c;rw[f]at*;cases c;rfl
   |inr y=>simp at f;subst f;simp at c;split at c<;>first|cases c|(split at c<;>cases c)
  | inr x =>
   cases E with
   |inl y=>simp at c;subst c;simp at f;split at f<;>first|cases f|(split at f<;>cases f)
   | inr y =>
    simp only at f c;by_cases o:x=id
    ·rw[AZ o]at f
     cases f
     by_cases m:y=id
     ·rw[o,m]
     rw[AO m]at c;by_cases q:y=a
     ·rw[AZ q]at c;cases c
     rw[AO q]at c;simp at c;exact absurd c q
    rw[AO o]at f;by_cases q:x=a
    ·rw[AZ q]at f;cases f
    rw[AO q]at f;simp at f;subst f;by_cases m:y=id
    ·rw[AZ m]at c;simp at c;exact absurd c.symm q
    rw[AO m]at c;by_cases G:y=a
    ·rw[AZ G]at c;cases c
    rw[AO G]at c;simp at c;rw[c]
 intro k;cases k with
 |inl i=>exact .inl ⟨_,rfl,rfl⟩
 | inr j =>
  by_cases o:j=id
  ·subst o
   refine .inl ⟨.inr a,At,?_⟩;simp[Am,Bq,z,AI.res]
  by_cases m:j=a
  ·subst m
   exact .inr (by simp[Am,Bq,AI.res])
  refine .inl ⟨.inr j,by simp[o,m],?_⟩
  simp only[Am,Bq,AO o,AO m];exact hi _ H j
theorem Z6(M:BV φ ψ w0 w (Am F ρ S)){dk:TypeId->Nat}{o}{g}{t t':TypeId}{s x}(X:o.op=.call {callee:=.builtin .append,args:= #[s,x],argTypes:= #[t,t']}){sa xa}(hs:g s=sa.val ρ)(hx:g x=xa.val ρ){id}{r}(h:jH P dk S id t t' sa xa=Z r)(G:Cl r.obs)(N:∀j∈r.made,S j=.none)(hi:FV S ρ r.made):
  FG P o g w (Hk φ ψ w0 F ρ S r):=by
 unfold jH at h;split at h
 case isFalse=>cases h
 rename_i aF
 subst aF;split at h<;>first|cases h|skip
 rename_i el aD
 split at h<;>first|cases h|skip
 rename_i d2 L n z h1 h2 h3 h4
 split at h
 case isFalse=>cases h
 rename_i hc
 simp only[Aj,decide_eq_true_eq]at hc;obtain⟨⟨hn,hz⟩,E⟩:=hc;have hu:=Pf aD;obtain⟨ie,p,C⟩:=Ds.1 h3;have aE:ie.zero=Z z:=by unfold JT at h4;rw[p]at h4;exact h4
 have aC:ie.bytes=L:=by
  unfold TT at h2;rw[p]at h2;exact Option.some.inj h2
 have l:(P.info? el).map (λi=>(i.zero,i.size,i.bytes))=Z (Z z,n,L):=by rw[p];simp[aE,C,aC]
 obtain⟨Q,k1,k2⟩:=uh M h1;have m:=k1;rw[E]at m;have H:=pj k1.1 k2
 have k:∀v w',(Builtin.append_ #[t,t] o.type #[sa.val ρ,xa.val ρ]).run P w=.ok v w'->(execOp g o).run P w=.ok (.value v) w':=by
  intro v w' hr;simp only[execOp,X,resolve,invoke,builtin,Sem.run_bind,Sem.run_pure,Result.andThen_ok,List.map_toArray,Fa,List.map_nil,hs,hx,hr]
 split at h
 ·rename_i a
  split at h<;>first|cases h|skip
  rename_i e' d1 hS
  split at h
  case isFalse=>cases h
  rename_i aG
  subst aG;obtain⟨d,hd,hr⟩:=Ds.1 h;subst hr;simp only[Cl]at G;obtain⟨q1,q2,q3,q4⟩:=D.app_ok hd;obtain⟨xs,R,m2⟩:=M.rowAt hS;have u:d1.sz=n:=O;rw[u]at R;obtain⟨a',k',w',f,T,r3,y,r5⟩:=XD (P:=P) (lo:=0) (ty:=o.type) hu l hz hn R m H G.1 G.2.1 (Di _)
  obtain⟨q,p1,p2,p3⟩:=M.move (id:=id) (d:=d) (v:=.slice a' (d1.len+d2.len) k') (xs:=xs++Q) hS (N id At) hi ⟨y.os,y.tape,y.output,y.size,λb hb aB=>y.block b hb λh=>aB h.symm⟩
   (by rw[q2,u,q1];exact T) (Ci.append hd (by rw[R.1,u]) m2 k2) r5
  exact .inl ⟨_,_,k _ _ f,q,p1,p2,p3⟩
 ·cases h
  simp only[Cl]at G;have R:w.ownsRow 0 el n (.slice I 0 0) 0 []:=World.ownsRow_nil _ _ _ _;obtain⟨a',k',w',f,T,r3,y,r5⟩:=XD (P:=P) (lo:=w.heap.size) (ty:=o.type) hu l hz hn (World.ownsRow_nil _ _ _ _) m H O (by rw[GS];exact G.2.1) (BR _)
  rw[GS,List.nil_append]at T;obtain⟨q,p1,p2,p3⟩:=M.newRow (id:=id) (e:=el) (d:=d2) (w':=w') r3 (N id At) hi (by rw[E];exact T) k2
  refine .inl ⟨_,_,k _ _ f,q,p1,p2,?_⟩;rw[GS];exact p3
 cases h
theorem D.sub_len(d:D)(l h)(a:h<=d.len):(d.sub l h).len=h-l:=by
 cases d<;>simp only[D.sub,D.len,List.length_drop,List.length_take]<;>(simp only[D.len]at a;omega)
theorem D.sub_sz(d:D)(l h):(d.sub l h).sz=d.sz:=by cases d<;>rfl
theorem xL{a:Type}(x:List a)(z:a)(l h i)(b:i<h-l):((x.take h).drop l).getD i z=x.getD (l+i) z:=by
 simp only[Bu,List.getElem?_drop,List.getElem?_take];rw[AZ O]
theorem D.sub_elem(d:D)(l h i)(a:i<h-l):(d.sub l h).elem i=d.elem (l+i):=by
 cases d<;>simp only[D.sub,D.elem]<;>rw[xL _ _ _ _ _ a]
theorem EK.sub{φ}{d}{a}{n c l h}(t:EK w φ d (.slice a n c))(G:l<=h)(e:h<=d.len):EK w φ (d.sub l h) (.slice (if c=l then a else a.map (·.add (l*d.sz))) (h-l) (c-l)):=by
 obtain⟨C,⟨Q,X,p,N,R,k2,y⟩,H⟩:=t.split;cases N
 have T:0<d.sz:=by cases d<;>simp[D.sz]
 have z:h*d.sz<=d.len*d.sz:=Iq _ e;have m:l*d.sz<=h*d.sz:=Iq _ G;refine EK.make (xs:=(C.take (h*d.sz)).drop (l*d.sz)) ⟨?_,_,_,by rw[D.sub_len d l h e],by rw[D.sub_len d l h e];omega,O,λL=>?_⟩ ?_
 ·rw[D.sub_len d l h e,D.sub_sz,List.length_drop,List.length_take,Q,Nat.sub_mul];omega
 ·rw[D.sub_len d l h e]at L
  obtain⟨b,g,rfl,q,M,v⟩:=y O;rw[AO O];refine⟨b,g+l*d.sz,?_,q,M,λj u f=>?_⟩
  ·simp only[Option.map_some,Addr.add];split
   ·rename_i E;rw[E,Fx]
   rfl
  rw[List.getElem?_drop,List.getElem?_take]at f;split at f
  ·have:=v _ u f;rw[<-Nat.add_assoc]at this;exact this
  cases f
 intro i o j x k;rw[D.sub_len d l h e]at o;rw[D.sub_elem d l h i o]at k
 have f:j<d.sz:=by
  have:=(EA.1 k).1;rw[D.elem_len]at this;exact this
 obtain⟨u,s,r⟩:=H (l+i) O j x k;refine⟨u,?_,r⟩;rw[D.sub_sz,List.getElem?_drop,List.getElem?_take,AZ, <-s]
 ·congr 1;rw[Nat.add_mul];omega
 have:(i+1)*d.sz<=(h-l)*d.sz:=Iq _ O;rw[Ft,Nat.sub_mul]at this;omega
theorem QC{k}{i:Int}{y:Nat}{c}(a:0<=i)(b:i<=y):(Instr.sliceBound (.int k i) y c).run P w=.ok i.toNat w:=by
 simp[Instr.sliceBound,asIntOf,a,b]
theorem BV.newDat(M:BV φ ψ w0 w (Am F ρ S)){id}{d}{v}(i:S id=.none)(f:FV S ρ [id])(h:EK w (EY φ (Am F ρ S)) d v):∃a,FK [id] ρ a/\BV φ ψ w0 w (Am F a (Bq S [(id,.G d)]))/\v=a id:=by
 obtain⟨a,b,g,c⟩:=M.dats [.sl d] [v] id ⟨h,Ay⟩ (λj e=>by simp[He]at e;rw[e];exact i) (by simpa[He]using f)
 simp only[He,Fa,List.map_nil]at b;simp only[QU,AA.vals,AA.val,List.cons.injEq,and_true]at c;exact⟨a,b,g,c⟩
theorem pk(M:BV φ ψ w0 w (Am F ρ S)){o}{g}{t:TypeId}{x}{lo hi}{e:Operand->Option AA}(aB:o.op=.slice t x lo hi I){T}(hx:g x=T.val ρ){L N}(aH:lo.map g=L.map (AA.val ρ))(aD:hi.map g=N.map (AA.val ρ)){id}{r}(h:ce P S id t T L N=Z r)(q:Cl r.obs)(aE:∀j∈r.made,S j=.none)(aC:FV S ρ r.made):
  FG P o g w (Hk φ ψ w0 F ρ S r):=by
 have E:∀v,(Instr.slice t (T.val ρ) (L.map (AA.val ρ)) (N.map (AA.val ρ)) I).run P w=.ok v w->P.underlying t=Z .string\/(∃R,P.underlying t=Z (.slice R))->(execOp g o).run P w=.ok (.value v) w:=by
  intro v Q m
  have hA:(Instr.sliceAt t (T.val ρ) (L.map (AA.val ρ)) (N.map (AA.val ρ)) I).run P w=.ok v w:=by
   unfold Instr.sliceAt;rcases m with m|⟨R,m⟩
   ·rw[Sem.run_bind,run_underlying m];exact Q
   rw[Sem.run_bind,run_underlying m];exact Q
  simp only[execOp,aB,Sem.run_bind,hx,aH,aD,Option.map_none,hA];rfl
 unfold ce at h;split at h
 ·rename_i a
  split at h
  case h_2=>cases h
  rename_i d n hS hn
  split at h
  case isFalse=>cases h
  rename_i aG
  obtain⟨R,h1,h2⟩:=Option.bind_eq_some_iff.1 hn;have m:=Pf h1;have H:=M.datAt hS;obtain⟨aa,G,D,aI,aJ,_⟩:=H.open;rw[D]at H
  have f:∀(l b:Nat) (u:List Prop),l<=b->b<=d.len->r=⟨[(id,.G (d.sub l b))],[id],.N id,u⟩->(Instr.slice t (ρ a) (L.map (AA.val ρ)) (N.map (AA.val ρ)) I).run P w=.ok (.slice (if G=l then aa else aa.map (·.add (l*d.sz))) (b-l) (G-l)) w->FG P o g w (Hk φ ψ w0 F ρ S r):=by
   intro l b u hl X Q C;subst Q;obtain⟨aF,p1,p2,p3⟩:=M.newDat (id:=id) (aE id At) aC (H.sub hl X);exact .inl ⟨_,_,E _ C (.inr ⟨R,m⟩),aF,p1,p2,p3⟩
  have p:(sizeOf R).run P w=.ok d.sz w:=by rw[Oi h2,aG]
  split at h
  ·cases h
   refine f 0 d.len _ (Di _) (BR _) rfl ?_;simp[Instr.slice,run_underlying m,D,Instr.sliceBounds,p]
  ·cases h
   simp only[Cl]at q;refine f 0 _ _ (Di _) O rfl ?_
   rename_i k b
   have z:=QC (P:=P) (w:=w) (k:=k) (i:=b) (y:=G) (c:=.sliceAcap) q.1 O;simp[Instr.slice,run_underlying m,D,Instr.sliceBounds,p,AA.val,z]
  ·cases h
   simp only[Cl]at q;refine f _ d.len _ O (BR _) rfl ?_
   rename_i k l
   have z:=QC (P:=P) (w:=w) (k:=k) (i:=l) (y:=d.len) (c:=.sliceB) q.1 O;simp[Instr.slice,run_underlying m,D,Instr.sliceBounds,p,AA.val,z]
  ·cases h
   simp only[Cl]at q;refine f _ _ _ O O rfl ?_
   rename_i k l k' b
   have z:=QC (P:=P) (w:=w) (k:=k) (i:=l) (y:=b.toNat) (c:=.sliceB) q.1 O;have e2:=QC (P:=P) (w:=w) (k:=k') (i:=b) (y:=G) (c:=.sliceAcap) O O;simp[Instr.slice,run_underlying m,D,Instr.sliceBounds,p,AA.val,z,e2]
  cases h
 ·rename_i s
  split at h
  case h_2=>cases h
  rename_i m
  have f:∀(l b:Nat) (u:List Prop),r=⟨[],[],.v (.string (s.extract l b)),u⟩->(Instr.slice t (.string s) (L.map (AA.val ρ)) (N.map (AA.val ρ)) I).run P w=.ok (.string (s.extract l b)) w->FG P o g w (Hk φ ψ w0 F ρ S r):=by
   intro l b u Q C;subst Q;exact .inl ⟨_,_,E _ C (.inl m),ρ,FK.refl _ _,M,rfl⟩
  split at h
  ·cases h
   simp only[Cl]at q;refine f 0 _ _ rfl ?_
   rename_i k b
   have z:=QC (P:=P) (w:=w) (k:=k) (i:=b) (y:=s.size) (c:=.sliceAlen) q.1 O;simp[Instr.slice,run_underlying m,Instr.sliceBounds,AA.val,z]
  ·cases h
   simp only[Cl]at q;refine f _ s.size _ rfl ?_
   rename_i k l
   have z:=QC (P:=P) (w:=w) (k:=k) (i:=l) (y:=s.size) (c:=.sliceB) q.1 O;simp[Instr.slice,run_underlying m,Instr.sliceBounds,AA.val,z]
  ·cases h
   simp only[Cl]at q;refine f _ _ _ rfl ?_
   rename_i k l k' b
   have z:=QC (P:=P) (w:=w) (k:=k) (i:=l) (y:=b.toNat) (c:=.sliceB) q.1 O;have e2:=QC (P:=P) (w:=w) (k:=k') (i:=b) (y:=s.size) (c:=.sliceAlen) O O;simp[Instr.slice,run_underlying m,Instr.sliceBounds,AA.val,z,e2]
  cases h
 cases h
end
section
variable{P:Program}{ι:Type}{φ ψ:Nat->Prop}{w0 w w':World}{F:ι->Bv}{ρ:Nat->Value}{S:Nat->AI}
theorem BV.eat{L n:ι->Bv}(M:BV φ ψ w0 w L)(l:ι->Prop)(i:ι)(G:∀j,j≠i->¬l j->n j=L j)(E:∀j,j≠i->l j->n j=Bv.none)(R:l i\/∀b,¬(L i).blk b)
  (m:Dl (λb=>¬∃j,l j/\(L j).blk b) w w') (h:(n i).holds w' (EY φ n)) (s:∀g,(n i).blk g->(∃j,l j/\(L j).blk g)\/w.heap.size<=g):BV φ ψ w0 w' n:=by
 have d:∀j b,j≠i->(n j).blk b->¬l j/\(L j).blk b:=λj b c f=>by
  by_cases e:l j
  ·rw[E j c e]at f;exact f.elim
  rw[G j c e]at f;exact⟨e,f⟩
 have y:∀b,b<w.heap.size->EY φ L b->EY φ n b:=λb f p=>⟨p.1,λj c=>by
  by_cases e:j=i
  ·subst e
   rcases s b c with⟨k,_,a⟩|a
   ·exact p.2 k a
   omega
  exact p.2 j (d j b e c).2⟩
 refine⟨⟨m.os.trans M.kept.os,m.tape.trans M.kept.tape,m.output.trans M.kept.output,DO M.size m.size,λb f H=>(m.block b (IM f M.size) ?_).trans (M.kept.block b f H)⟩,M.fresh,M.env,λj=>?_,λj k g v c o=>?_,λj b c=>?_,λj b c=>?_⟩
 ·rintro⟨j,_,c⟩
  rcases M.ge j b c with D|D
  ·omega
  exact D H
 ·by_cases e:j=i
  ·subst e;exact h
  by_cases z:l j
  ·rw[E j e z];exact Bv.none_holds _ _
  rw[G j e z];refine Bv.keep (M.holds j) ⟨m.size,λb f p=>⟨y b f p,m.block b f ?_⟩⟩ λg u=>m.block g (M.lt u) ?_
  ·rintro⟨k,_,a⟩;exact p.2 k a
  rintro⟨k,t,a⟩;exact M.dis j k g (λh=>z (h▸t)) u a
 ·by_cases e:j=i
  ·subst e
   obtain⟨Q,a⟩:=d k g (λh=>v h.symm) o
   rcases s g c with⟨q,r,x⟩|r
   ·exact M.dis q k g (λh=>Q (h▸r)) x a
   have:=M.lt a;omega
  obtain⟨N,t⟩:=d j g e c;by_cases C:k=i
  ·subst C
   rcases s g o with⟨q,r,x⟩|r
   ·exact M.dis j q g (λh=>N (h▸r)) t x
   have:=M.lt t;omega
  exact M.dis j k g v t (d k g C o).2
 ·by_cases e:j=i
  ·subst e
   rcases s b c with⟨k,_,a⟩|a
   ·exact M.ge k b a
   exact .inl (DO M.size a)
  exact M.ge j b (d j b e c).2
 by_cases e:j=i
 ·subst e
  rcases s b c with⟨k,_,a⟩|a
  ·exact M.ph k b a
  exact M.fresh b (DO M.size a)
 exact M.ph j b (d j b e c).2
def JU(S:Nat->AI)(ρ:Nat->Value)(a:List Nat)(b:Nat):Prop:=∃j∈a,((S j).res ρ j).blk b
theorem kB(S)(j):∀(b:List Nat),Bq S (b.map λi=>(i,AI.E)) j=if j∈b then AI.E else S j
 |[]=>rfl
 |a::r=>by
  simp only[Fa,Bq,Eb];rw[kB S j r];by_cases e:j=a
  ·simp[e]
  simp[e]
theorem BV.graft(M:BV φ ψ w0 w (Am F ρ S)){id}{ids}{d}{v}{T}(D:S id=.none)(C:id∉ids)(H:FV S ρ [id])(q:Dl (λb=>¬JU S ρ ids b) w w')(G:FR w' T d v)(z:∀b,T b->JU S ρ ids b\/w.heap.size<=b):
  ∃l,FK [id] ρ l/\BV φ ψ w0 w' (Am F l (Bq S ((id,.Q d)::ids.map λj=>(j,.E))))/\v=Fe (l id):=by
 obtain⟨x,s,p⟩:=fp v (λb=>T b/\b<w'.heap.size) w'.heap.size λb h=>h.2
 have u:FK [id] ρ (λj=>if j=id then x else ρ j):=λj t=>by
  have:j≠id:=by simpa using t
  simp[this]
 refine⟨_,u,?_,by simp[s]⟩
 refine M.eat (λk=>∃j∈ids,k=.inr j) (.inr id) (λk c m=>?_) (λk c m=>?_) (.inr λb o=>by simp only[Am,D,AI.res]at o;exact o) ?_ ?_ λg r=>?_
 ·cases k with
  |inl i=>rfl
  |inr j=>
   have f:j≠id:=λe=>c (by rw[e])
   have n:j∉ids:=λe=>m ⟨j,e,rfl⟩
   simp only[Am,Bq,AO f];rw[kB,AO n];exact H _ u j
 ·obtain⟨j,t,rfl⟩:=m
  have f:j≠id:=λe=>c (by rw[e])
  simp only[Am,Bq,AO f];rw[kB,AZ t];rfl
 ·refine⟨q.os,q.tape,q.output,q.size,λb o L=>q.block b o λ⟨j,f,n⟩=>L ⟨.inr j,⟨j,f,rfl⟩,n⟩⟩
 ·simp only[Am,Bq,if_true,AI.res]
  have e:Fi x=λb=>T b/\b<w'.heap.size:=funext λb=>propext (p b)
  rw[s,e];exact⟨λ_ _ h E=>h.same E,G.cut,λb o=>o.2⟩
 simp only[Am,Bq,if_true,AI.res]at r;have f:=(p g).1 r;rcases z g f.1 with⟨j,n,y⟩|n
 ·exact .inl ⟨.inr j,⟨j,n,rfl⟩,y⟩
 exact .inr n
def SC(S:Nat->AI):AA->Option (List AF×List Nat)
 |.F id=>match S id with
  |.Q (.P l)=>Z (l,[id])
  |_=>I
 |.v (.slice I 0 0)=>Z ([],[])
 |_=>I
def Uw(S:Nat->AI):AA->Option (List AG×List Nat)
 |.F id=>match S id with
  |.Q (.M l)=>Z (l,[id])
  |_=>I
 |.v (.slice I 0 0)=>Z ([],[])
 |_=>I
def WY(S:Nat->AI):AA->Option (List Int×List Nat)
 |.N id=>match S id with
  |.L e (.C l)=>if CW e 3 then Z (l,[id])else I
  |_=>I
 |.v (.slice I 0 0)=>Z ([],[])
 |_=>I
def Wc(S:Nat->AI)(k:Nat)(l:List AA):Option (D×List Nat):=
 match k,l with
 |9,[.v (.int .i64 a),.v (.int .i64 b),x]=>(SC S x).map λr=>(.P [⟨a,b,r.1⟩],r.2)
 |10,[.v (.int .i64 a),.v (.int .i64 b),.v (.int .i64 c),.v (.int .i64 d),x,.v (.int .i64 e),.v (.int .i64 f),y,.v (.int .i64 g),z,u]=>
  match SC S x,SC S y,Uw S z,Uw S u with
  |some x,Z y,Z z,Z u=>Z (.M [⟨a,b,⟨c,d,x.1⟩,⟨e,f,y.1⟩,g,z.1,u.1⟩],x.2++(y.2++(z.2++u.2)))
  |_,_,_,_=>I
 |7,[x]=>(WY S x).map λr=>(.L [r.1],r.2)
 |_,_=>I
theorem ze(w)(T):HH w (.slice I 0 0) [] T:=⟨[],λ_=>False,World.ownsRow_nil _ _ _ _,(λg a=>by cases a),λ_ h=>h.elim,rfl⟩
theorem xr(w)(T):JQ w (.slice I 0 0) [] T:=⟨[],λ_=>False,World.ownsRow_nil _ _ _ _,(λg a=>by cases a),λ_ h=>h.elim,rfl⟩
theorem gL(M:BV φ ψ w0 w (Am F ρ S)){x}{l}{a}(h:SC S x=Z (l,a)):HH w (x.val ρ) l (JU S ρ a):=by
 unfold SC at h;split at h<;>first|cases h|skip
 ·rename_i id
  split at h<;>first|cases h|skip
  rename_i c
  have e:=(M.treeAt (id:=id) (d:=.P l) (by rw[c];rfl)).1
  exact(FR.k.1 e).mono λb f=>⟨id,At,by rw[c];exact f⟩
 exact ze _ _
theorem nq(M:BV φ ψ w0 w (Am F ρ S)){x}{l}{a}(h:Uw S x=Z (l,a)):JQ w (x.val ρ) l (JU S ρ a):=by
 unfold Uw at h;split at h<;>first|cases h|skip
 ·rename_i id
  split at h<;>first|cases h|skip
  rename_i c
  have e:=(M.treeAt (id:=id) (d:=.M l) (by rw[c];rfl)).1
  exact(FR.block.1 e).mono λb f=>⟨id,At,by rw[c];exact f⟩
 exact xr _ _
theorem qu{φ}{l}{a}(e:J a=J l)(h:Ci w φ (.C l) a):a=BW l:=by
 apply List.ext_getElem?;intro j;by_cases c:j<J l
 ·obtain⟨u,b,d⟩:=h j c 0 _ rfl
  simp only[D.sz,Nat.mul_one,Fx]at b;rw[b,show u=_ from d];simp[BW,c]
 rw[FO O,FO (by simp[BW];omega)]
theorem H2(M:BV φ ψ w0 w (Am F ρ S)){x}{l}{a}(h:WY S x=Z (l,a)):w.ownsRow 0 3 1 (x.val ρ) (J l) (BW l)/\∀g,(x.val ρ).ownBlock=Z g->JU S ρ a g:=by
 unfold WY at h;split at h<;>first|cases h|skip
 ·rename_i id
  split at h<;>first|cases h|skip
  rename_i e n f
  split at h<;>first|cases h|skip
  rename_i m
  have d:e=3:=by simpa[CW]using m
  subst d;obtain⟨j,c,k⟩:=M.rowAt f;have i:J j=J l:=by have:=c.1;simpa[D.len,D.sz]using this
  rw[qu i k]at c;exact⟨c,λg b=>⟨id,At,by rw[f];exact b⟩⟩
 exact⟨World.ownsRow_nil _ _ _ _,λg b=>by cases b⟩
theorem Ut(M:BV φ ψ w0 w (Am F ρ S)){a b}(h:∀x∈a,x∉b){g}(c:JU S ρ a g):¬JU S ρ b g:=by
 rintro⟨j,f,d⟩;obtain⟨i,k,l⟩:=c;exact M.dis (.inr i) (.inr j) g (λe=>h i k (by cases e;exact f)) l d
theorem zN(M:BV φ ψ w0 w (Am F ρ S)){k}{l}{d}{t}(h:Wc S k l=Z (d,t))(H:t.Nodup):d.len=1/\d.sz=J l/\Ga w d (JU S ρ t) (AA.vals ρ l):=by
 unfold Wc at h;split at h<;>first|cases h|skip
 ·rename_i a b x
  obtain⟨r,m,n⟩:=Ds.1 h;cases n
  refine⟨rfl,rfl,?_⟩;simp only[Ga];exact⟨_,[],JU S ρ r.2,λ_=>False,(II _).symm,λb i=>⟨i,λh=>h⟩,λb i=>i.elim,(GI.iff _ _ _).2 ⟨_,rfl,gL M m⟩,rfl⟩
 ·rename_i a b c d x e f y g z u
  split at h<;>first|cases h|skip
  rename_i p D C v R hy N hu
  refine⟨rfl,rfl,?_⟩;simp only[List.nodup_append,DQ]at H;obtain⟨-,⟨-,⟨-,-,n3⟩,L⟩,G⟩:=H;have d1:∀q∈p.2,q∉D.2:=λq m n=>G q m q (.inl n) rfl
  have X:∀q∈p.2,q∉C.2:=λq m n=>G q m q (.inr (.inl n)) rfl
  have d3:∀q∈p.2,q∉v.2:=λq m n=>G q m q (.inr (.inr n)) rfl
  have d4:∀q∈D.2,q∉C.2:=λq m n=>L q m q (.inl n) rfl
  have d5:∀q∈D.2,q∉v.2:=λq m n=>L q m q (.inr n) rfl
  have d6:∀q∈C.2,q∉v.2:=λq m n=>n3 q m q n rfl
  have E:∀(s:List Nat),(∀q∈s,q∈p.2++(D.2++(C.2++v.2)))->∀b,JU S ρ s b->JU S ρ (p.2++(D.2++(C.2++v.2))) b:=λs hs b ⟨j,m,n⟩=>⟨j,hs j m,n⟩
  simp only[Ga];refine⟨_,[],JU S ρ (p.2++(D.2++(C.2++v.2))),λ_=>False,(II _).symm,λb i=>⟨i,λh=>h⟩,λb i=>i.elim,(Gi.iff _ _ _).2 ⟨_,_,_,_,JU S ρ p.2,JU S ρ D.2,JU S ρ C.2,JU S ρ v.2,rfl,⟨λb i=>⟨E _ (λq o=>by simp[o]) b i,Ut M d1 i,Ut M X i,Ut M d3 i⟩,λb i=>⟨E _ (λq o=>by simp[o]) b i,Ut M d4 i,Ut M d5 i⟩,λb i=>⟨E _ (λq o=>by simp[o]) b i,Ut M d6 i⟩,λb i=>E _ (λq o=>by simp[o]) b i⟩,gL M R,gL M hy,nq M N,nq M hu⟩,rfl⟩
 rename_i x
 obtain⟨r,m,n⟩:=Ds.1 h;cases n
 obtain⟨Q,k2⟩:=H2 M m;refine⟨rfl,rfl,?_⟩;simp only[Ga];exact⟨_,[],λ_=>False,rfl,Q,λg T=>⟨k2 g T,λh=>h⟩,λb i=>i.elim,rfl⟩
def TZ(d:D)(a:TypeId):Bool:=match OO d with
 |some e=>CW e a
 |none=>U
theorem UD{d}{a:TypeId}(h:TZ d a=V):OO d=Z a:=by
 unfold TZ at h;split at h
 ·rename_i e b;rw[b,show e=a by simpa[CW]using h]
 cases h
def Vx(P:Program)(h:TypeId->Nat)(e:Operand->Option AA)(S:Nat->AI)(id:Nat)(t:TypeId)(g:Nat)(a:List (Nat×Operand)):Option Ht:=
 match Lo P t with
 |none=>I
 | some f =>
  match Hp P f,JT P f with
  | some n, Z z =>
   if 0<n&&z.cells.size=n&&g=1&&(J a)=1&&n<=16777216 then
    match PT e S n 0 a with
    |some [c]=>match Wc S (h f) c with
     |some (d,b)=>if nodupB b&&TZ d f then Z ⟨(id,.Q d)::b.map λj=>(j,.E),[id],.F id,[]⟩else I
     |none=>I
    |_=>I
   else I
  |_,_=>I
where nodupB:List Nat->Bool
 |[]=>V
 |x::r=> !(r.any (CW x))&&nodupB r
theorem wF{l}(h:Vx.nodupB l=V):l.Nodup:=by
 induction l with
 |nil=>simp
 |cons x r b=>
  simp only[Vx.nodupB,Aj,Cn]at h;refine List.nodup_cons.2 ⟨λa=>?_,b h.2⟩
  have:r.any (CW x)=true:=List.any_eq_true.2 ⟨x,a,by simp[CW]⟩
  rw[this]at h;cases h.1
theorem c8(M:BV φ ψ w0 w (Am F ρ S)){dk:TypeId->Nat}{o}{e}{g}{t:TypeId}{R}{a}(aD:o.op=.buildSlice t R a)(hg:∀p∈a.toList,∀v,e p.2=Z v->g p.2=v.val ρ){id}{r}(h:Vx P dk e S id t R a.toList=Z r)(aF:∀j∈r.made,S j=.none)(hi:FV S ρ r.made):
  FG P o g w (Hk φ ψ w0 F ρ S r):=by
 unfold Vx at h;split at h<;>first|cases h|skip
 rename_i L aG
 split at h<;>first|cases h|skip
 rename_i n z H y
 split at h
 case isFalse=>cases h
 rename_i hc
 simp only[Aj,decide_eq_true_eq]at hc;obtain⟨⟨⟨⟨hn,hz⟩,Q⟩,aE⟩,aQ⟩:=hc;split at h<;>first|cases h|skip
 rename_i c hl
 split at h<;>first|cases h|skip
 rename_i d u h4
 split at h
 case isFalse=>cases h
 rename_i N
 simp only[Aj]at N;cases h
 subst Q;obtain⟨k1,k2⟩:=gk hl;obtain⟨m1,m2,m3⟩:=zN M h4 (wF N.1);have aO:=UD N.2;have aJ:d.sz=n:=by rw[m2];exact k2 c At
 have E:S id=.none:=aF id At;obtain⟨ie,aC,m⟩:=Ds.1 H
 have aL:ie.zero=Z z:=by
  unfold JT at y;rw[aC]at y;exact y
 have hu:=Pf aG;have aN:(AA.vals ρ c).length=1*n:=by rw[AA.vals_length,k2 c At,Nat.one_mul]
 have X:(Instr.buildSlice t 1 (a.map λp=>(p.1,g p.2))).run P w=.ok (.slice (Z ⟨w.heap.size,0,I⟩) 1 1) (w.alloc (.cells (AA.vals ρ c).toArray L)):=by
  refine run_buildSlice w t L 1 _ _ ie z hu aC aL O (by rw[m];omega) ?_
  have hf:=hZ M a.toList 0 [c] [] (((Array.range (1*ie.size)).map (z.cells[· %z.cells.size]!)).toList) hl hg At (by simp[m,aE])
  rw[m]at hf ⊢;simp only[List.nil_append,Array.toArray_toList,List.flatten_cons,List.flatten_nil,II]at hf;simpa using hf
 have aB:=(NH w (g:=w.heap.size) (AA.vals ρ c).toArray 1 n L rfl (by simpa using aN) O).1
 have C:Below w.heap.size w (w.alloc (.cells (AA.vals ρ c).toArray L)):=(Below.refl _ _).alloc (BR _) _;have aM:∀j∈u,∀b,((S j).res ρ j).blk b->b<w.heap.size:=λj _ b C=>M.lt (i:=.inr j) C
 obtain⟨aI,q1,q2,q3⟩:=M.graft (id:=id) (ids:=u) (d:=d) (v:=.slice (Z ⟨w.heap.size,0,I⟩) 1 1) (T:=λb=>JU S ρ u b\/b=w.heap.size) E (λhm=>by
   have:∀(k:Nat) (l:List AA) (r:D×List Nat),Wc S k l=Z r->∀j∈r.2,S j≠ .none:=by
    intro k l r h j f
    have hE:∀{x:AA} {q:List AF×List Nat},SC S x=Z q->∀j∈q.2,S j≠ .none:=by
     intro x q h j f;unfold SC at h;split at h<;>first|cases h|skip
     ·split at h<;>first|cases h|skip
      rename_i E;simp at f;subst f;rw[E];intro h;cases h
     cases f
    have hT:∀{x:AA} {q:List AG×List Nat},Uw S x=Z q->∀j∈q.2,S j≠ .none:=by
     intro x q h j f;unfold Uw at h;split at h<;>first|cases h|skip
     ·split at h<;>first|cases h|skip
      rename_i E;simp at f;subst f;rw[E];intro h;cases h
     cases f
    have hI:∀{x:AA} {q:List Int×List Nat},WY S x=Z q->∀j∈q.2,S j≠ .none:=by
     intro x q h j f;unfold WY at h;split at h<;>first|cases h|skip
     ·split at h<;>first|cases h|skip
      split at h<;>first|cases h|skip
      rename_i E _;simp at f;subst f;rw[E];intro h;cases h
     cases f
    unfold Wc at h;split at h<;>first|cases h|skip
    ·obtain⟨q,H,y⟩:=Ds.1 h
     cases y;exact hE H j f
    ·split at h<;>first|cases h|skip
     rename_i hx hy hz hu
     simp only[DQ]at f;rcases f with f|f|f|f
     ·exact hE hx j f
     ·exact hE hy j f
     ·exact hT hz j f
     exact hT hu j f
    obtain⟨q,H,y⟩:=Ds.1 h;cases y;exact hI H j f
   exact this _ _ _ h4 id hm E) hi (Dl.any C)
  ⟨L,_,JU S ρ u,aO,by rw[m1,aJ];exact KX aB (Di _),λg hg=>by
   cases hg
   exact⟨.inr rfl,λ⟨j,H,y⟩=>Nat.lt_irrefl _ (aM j H _ y)⟩,λb C=>.inl C,by
   simpa using m3.same (w':=w.alloc (.cells (AA.vals ρ c).toArray L)) λb _ aH=>C.block b aH⟩
  (λb C=>C.imp (λh=>h) λh=>by omega)
 have G:(execOp g o).run P w=.ok (.value (.slice (Z ⟨w.heap.size,0,I⟩) 1 1)) (w.alloc (.cells (AA.vals ρ c).toArray L)):=by
  simp only[execOp,aD,Sem.run_bind];rw[show(a.map fun(i,x)=>(i,g x))=a.map λp=>(p.1,g p.2)from rfl,X]
  rfl
 exact .inl ⟨_,_,G,aI,q1,q2,by simp only[AA.val];exact q3⟩
def ii(P:Program)(e:TypeId->Nat)(id:Nat)(t:TypeId)(c:Nat)(a:List (Nat×Operand)):Option Ht:=
 match Lo P t with
 |none=>I
 | some b =>
  match Hp P b,JT P b,D.nil (e b)with
  |some n,Z z,Z d=>
   if 0<n&&z.cells.size=n&&d.sz=n&&CW c 0&&CW (J a) 0&&TZ d b&&Y (9<=e b)then Z ⟨[(id,.Q d)],[id],.F id,[]⟩else I
  |_,_,_=>I
theorem xt{k}{d}(h:D.nil k=Z d)(a:9<=k)(w)(T):Ga w d T []:=by
 unfold D.nil at h;split at h<;>first|omega|skip
 ·cases h;rfl
 ·cases h;rfl
 cases h
theorem Z7(M:BV φ ψ w0 w (Am F ρ S)){dk:TypeId->Nat}{o}{g}{t:TypeId}{f}{a}(s:o.op=.buildSlice t f a){id}{r}(h:ii P dk id t f a.toList=Z r)(y:∀j∈r.made,S j=.none)(hi:FV S ρ r.made):
  FG P o g w (Hk φ ψ w0 F ρ S r):=by
 unfold ii at h;split at h<;>first|cases h|skip
 rename_i k E
 split at h<;>first|cases h|skip
 rename_i n z d h1 L X
 split at h
 case isFalse=>cases h
 rename_i hc
 simp only[Aj,decide_eq_true_eq,CW,beq_iff_eq]at hc;obtain⟨⟨⟨⟨⟨⟨hn,hz⟩,H⟩,e⟩,u⟩,ht⟩,h9⟩:=hc;cases h
 subst e
 have N:a= #[]:=by
  apply Array.ext';exact FM u
 subst N;have Q:=UD ht;have C:=D.nil_len X;have hS:S id=.none:=y id At;obtain⟨ie,m,R⟩:=Ds.1 h1
 have aB:ie.zero=Z z:=by
  unfold JT at L;rw[m]at L;exact L
 have hu:=Pf E
 have i:(Instr.buildSlice t 0 (#[]:Array (Nat×Value))).run P w=.ok (.slice (Z ⟨w.heap.size,0,I⟩) 0 0) (w.alloc (.cells #[] k)):=by
  have x:Array.range 0= #[]:=rfl;simp[Instr.buildSlice,run_underlying hu,sizeOf,typeInfo,m,Instr.fill,newRow,x]
 have l:=(NH w (g:=w.heap.size) (#[]:Array Value) 0 n k rfl At O).1;have q:Below w.heap.size w (w.alloc (.cells #[] k)):=(Below.refl _ _).alloc (BR _) _
 obtain⟨G,q1,q2,q3⟩:=M.graft (id:=id) (ids:=[]) (d:=d) (v:=.slice (Z ⟨w.heap.size,0,I⟩) 0 0) (T:=λb=>b=w.heap.size) hS At hi (Dl.any q)
  ⟨k,[],λ_=>False,Q,by rw[C,H];exact KX l (Di _),λg hg=>by
   cases hg
   exact⟨rfl,λh=>h⟩,λb q=>q.elim,xt X h9 _ _⟩
  (λb q=>.inr O)
 have c:(execOp g o).run P w=.ok (.value (.slice (Z ⟨w.heap.size,0,I⟩) 0 0)) (w.alloc (.cells #[] k)):=by
  simp only[execOp,s,Sem.run_bind,List.map_toArray,List.map_nil,i];rfl
 exact .inl ⟨_,_,c,G,q1,q2,by simp only[AA.val];exact q3⟩
def fj(P:Program)(S:Nat->AI)(id:Nat)(t h:TypeId)(s x:AA):Option Ht:=
 if t=h then
  match Lo P t,x with
  | some e, .F b =>
   match S b,TT P e,Hp P e,JT P e with
   | .Q c, Z f, Z n, Z z =>
    if 0<n&&z.cells.size=n&&c.sz=n&&TZ c e then
     match s with
     |.F a=>if CW a b then I else match S a with
      |.Q g=>if TZ g e then(g.app c).map λd=>⟨(id,.Q d)::[a,b].map λj=>(j,.E),[id],.F id,[g.len+c.len<=9223372036854775807,(g.len+c.len)*f<=140737488355328]⟩else I
      |_=>I
     |.v (.slice I 0 0)=>Z ⟨(id,.Q c)::[b].map λj=>(j,.E),[id],.F id,[c.len<=9223372036854775807,c.len*f<=140737488355328]⟩
     |_=>I
    else I
   |_,_,_,_=>I
  |_,_=>I
 else I
theorem M8{v}{n d}{f e}(h:Cd w v n d f)(k:Cd w v n d e):f=e:=by
 obtain⟨y,a,u,rfl,_,_,o⟩:=h;obtain⟨C,z,m,c,_,_,q⟩:=k;cases c
 apply List.ext_getElem?;intro j;by_cases t:j<n*d
 ·have g:0<n:=Nat.pos_of_ne_zero λh=>by subst h;simp at t
  obtain⟨b,p,rfl,_,r⟩:=o g;obtain⟨D,i,c,_,x⟩:=q g;cases c
  have s:=r j _ (CF O);have l:=x j _ (CF O);rw[s]at l;rw[CF O,CF O];exact l
 rw[FO O,FO O]
theorem Ga.app{i g d}{S T f}{k j}(h:i.app g=Z d)(a:Ga w i S k)(b:Ga w g T j)(c:∀x,S x->f x/\¬T x)(e:∀x,T x->f x):Ga w d f (k++j):=by
 cases i<;>cases g<;>simp only[D.app]at h<;>first|cases h|skip
 all_goals simp only[Ga]at a b ⊢
 ·exact a.app b c e
 ·exact Dz.app a b c e
 exact Dp.app a b c e
theorem yK{a b d}(h:a.app b=Z d):OO d=OO a:=by
 cases a<;>cases b<;>simp only[D.app]at h<;>first|cases h|skip
 all_goals rfl
theorem zw(M:BV φ ψ w0 w (Am F ρ S)){o}{g}{t t':TypeId}{s x}(aQ:o.op=.call {callee:=.builtin .append,args:= #[s,x],argTypes:= #[t,t']}){sa xa}(hs:g s=sa.val ρ)(hx:g x=xa.val ρ){id}{r}(h:fj P S id t t' sa xa=Z r)(ho:Cl r.obs)(H:∀j∈r.made,S j=.none)(hi:FV S ρ r.made):
  FG P o g w (Hk φ ψ w0 F ρ S r):=by
 unfold fj at h;split at h
 case isFalse=>cases h
 rename_i aY
 subst aY;split at h<;>first|cases h|skip
 rename_i el b aV
 split at h<;>first|cases h|skip
 rename_i d2 aJ n z L m h3 h4
 split at h
 case isFalse=>cases h
 rename_i f
 simp only[Aj,decide_eq_true_eq]at f;obtain⟨⟨⟨hn,hz⟩,aG⟩,aL⟩:=f;have hu:=Pf aV;obtain⟨ie,aB,aE⟩:=Ds.1 h3;have aX:ie.zero=Z z:=by unfold JT at h4;rw[aB]at h4;exact h4
 have aS:ie.bytes=aJ:=by
  unfold TT at m;rw[aB]at m;exact Option.some.inj m
 have E:(P.info? el).map (λi=>(i.zero,i.size,i.bytes))=Z (Z z,n,aJ):=by rw[aB];simp[aX,aE,aS]
 obtain⟨aN,N⟩:=M.treeAt (id:=b) (d:=d2) (by rw[L];rfl)
 have aR:=FR.read (φ:=λ_=>True) aN λ_ _=>trivial
 obtain⟨e2,q,S2,f0,f1,f2,f3,f4⟩:=aN;rw[UD aL]at f0;cases f0;have k1:=Tm f1
 have aI:∀u∈q,u.oneCell'=true:=by
  obtain⟨aZ,r1,r2⟩:=aR.split;rw[M8 k1 r1.L];exact pj r1.1 r2
 rw[aG]at k1
 have C:∀v w',(Builtin.append_ #[t,t] o.type #[sa.val ρ,AA.val ρ (.F b)]).run P w=.ok v w'->(execOp g o).run P w=.ok (.value v) w':=by
  intro v w' hr;simp only[execOp,aQ,resolve,invoke,builtin,Sem.run_bind,Sem.run_pure,Result.andThen_ok,List.map_toArray,Fa,List.map_nil,hs,hx,hr]
 have aD:∀c,Fi (ρ b) c->((S b).res ρ b).blk c:=λc f=>by rw[L];exact f
 split at h
 ·rename_i a
  split at h
  case isTrue=>cases h
  rename_i aU
  have aF:a≠b:=by simpa[CW]using aU
  split at h<;>first|cases h|skip
  rename_i d1 X
  split at h
  case isFalse=>cases h
  rename_i aH
  obtain⟨d,hd,hr⟩:=Ds.1 h;subst hr;simp only[Cl]at ho;obtain⟨q1,q2,q3,q4⟩:=D.app_ok hd;obtain⟨aW,aM⟩:=M.treeAt (id:=a) (d:=d1) (by rw[X];rfl)
  obtain⟨e1,xs,S1,g0,Bs,g2,CZ,g4⟩:=aW;rw[UD aH]at g0;cases g0;have R:∀c,Fi (ρ a) c->((S a).res ρ a).blk c:=λc f=>by rw[X];exact f
  have y:∀c,Fi (ρ a) c->¬Fi (ρ b) c:=λc h1 m=>M.dis (.inr a) (.inr b) c (λe=>aF (by cases e;rfl)) (R c h1) (aD c m)
  have aO:d1.sz=n:=O;rw[aO]at Bs;obtain⟨a',k',w',p,r2,r3,r4,r5⟩:=XD (P:=P) (lo:=0) (ty:=o.type) hu E hz hn Bs k1 aI ho.1 ho.2.1 (Di _);have l:∀c,c<w.heap.size->(Fe (ρ a)).ownBlock≠Z c->w'.heap[c]? =w.heap[c]? :=λc f Q=>r4.block c f λh=>Q h.symm
  obtain⟨aC,p1,p2,p3⟩:=M.graft (id:=id) (ids:=[a,b]) (d:=d) (v:=.slice a' (d1.len+d2.len) k') (T:=λc=>Fi (ρ a) c\/Fi (ρ b) c\/(w.heap.size<=c/\(Value.slice a' (d1.len+d2.len) k').ownBlock=Z c)) (H id At)
   (λhm=>by
    have h0:=H id At;simp only[Eb,It,or_false]at hm;rcases hm with rfl|rfl
    ·rw[X]at h0;cases h0
    rw[L]at h0;cases h0) hi
   ⟨r4.os,r4.tape,r4.output,r4.size,λc f Q=>l c f λhe=>Q ⟨a,At,R c (g2 c he).1⟩⟩
   ⟨el,xs++q,λc=>S1 c\/S2 c,by rw[yK hd,UD aH],by rw[q2,aO,q1];exact r2,λc f=>by
    rcases r5 c f with h|h
    ·exact⟨.inl (g2 c h).1,λhh=>hh.elim (g2 c h).2 λm=>y c (g2 c h).1 (f3 c m)⟩
    ·exact⟨.inr (.inr ⟨h,f⟩),λhh=>hh.elim (λm=>by have:=aM c (CZ c m);omega) λm=>by have:=N c (f3 c m);omega⟩,
    λc f=>f.imp (CZ c) λh=>.inl (f3 c h),by
    refine Ga.app hd (g4.same λc f G=>l c G λhe=>(g2 c he).2 f) (f4.same λc f G=>l c G λhe=>y c (g2 c he).1 (f3 c f)) (λc f=>⟨.inl f,λm=>y c (CZ c f) (f3 c m)⟩) λc f=>.inr f⟩
   (λc f=>by
    rcases f with h|h|h
    ·exact .inl ⟨a,At,R c h⟩
    ·exact .inl ⟨b,At,aD c h⟩
    exact .inr h.1)
  exact .inl ⟨_,_,C _ _ p,aC,p1,p2,p3⟩
 ·cases h
  simp only[Cl]at ho;obtain⟨a',k',w',p,r2,r3,r4,r5⟩:=XD (P:=P) (lo:=w.heap.size) (ty:=o.type) hu E hz hn (World.ownsRow_nil _ _ _ _) k1 aI O (by rw[GS];exact ho.2.1) (BR _)
  rw[GS,List.nil_append]at r2
  obtain⟨aC,p1,p2,p3⟩:=M.graft (id:=id) (ids:=[b]) (d:=d2) (v:=.slice a' (0+d2.len) k') (w':=w') (T:=λc=>Fi (ρ b) c\/(w.heap.size<=c/\(Value.slice a' (0+d2.len) k').ownBlock=Z c)) (H id At)
   (λhm=>by
    have h0:=H id At;simp only[Eb,It,or_false]at hm;subst hm
    rw[L]at h0;cases h0) hi (Dl.any r3)
   ⟨el,q,S2,UD aL,by rw[aG,GS];exact KX r2 (Di _),λc f=>by
    rcases r5 c f with h|h
    ·cases h
    exact⟨.inr ⟨h,f⟩,λm=>by have:=N c (f3 c m);omega⟩,λc f=>.inl (f3 c f),f4.same λc _ G=>r3.block c G⟩
   (λc f=>f.imp (λh=>⟨b,At,aD c h⟩) λh=>h.1)
  exact .inl ⟨_,_,C _ _ p,aC,p1,p2,p3⟩
 cases h
theorem nV(S)(a):∀b j,Bq (Bq S a) b j=Bq S (b++a) j
 |[],_=>rfl
 |(k,x)::r,j=>by
  simp only[Bq,IR];rw[nV S a r j]
theorem BV.rowDat(M:BV φ ψ w0 w (Am F ρ S)){a}{x:TypeId}{d}(t:S a=.L x d):BV φ ψ w0 w (Am F ρ (Bq S [(a,.G d)])):=by
 obtain⟨y,u,v⟩:=M.rowAt t;have p:Bq S [(a,.G d)] a=.G d:=by simp[Bq]
 have r:∀j,j≠a->Bq S [(a,.G d)] j=S j:=λj h=>by simp[Bq,h]
 generalize Bq S [(a,.G d)]=n at p r
 have c:∀k:ι ⊕ Nat,k≠ .inr a->Am F ρ n k=Am F ρ S k:=λk f=>by
  cases k with
  |inl q=>rfl
  |inr j=>
   have:j≠a:=λe=>f (by rw[e])
   simp only[Am];rw[r j this]
 have i:∀g,¬(Am F ρ n (.inr a)).blk g:=λg l=>by
  simp only[Am]at l;rw[p]at l;exact l
 refine M.put (.inr a) c (Dl.refl _ _) ?_ λg l=>(i g l).elim
 show(((n a).res ρ a)).holds w _;rw[p];refine⟨EK.nice _ _,?_⟩
 have o:∀b,EY φ (Am F ρ S) b->EY φ (Am F ρ n) b:=λb m=>⟨m.1,λk f=>by
  by_cases e:k=.inr a
  ·subst e;exact i b f
  rw[c k e]at f;exact m.2 k f⟩
 refine EK.make (Jo u λg l=>?_) (Ci.nice _ _ _ _ _ _ (Ew.mono λb _ m=>o b m) v)
 have s:(Am F ρ S (.inr a)).blk g:=by simp only[Am];rw[t];exact l
 refine⟨M.ph _ _ s,λk f=>?_⟩
 by_cases e:k=.inr a
 ·subst e;exact i g f
 rw[c k e]at f;exact M.dis _ _ g (λh=>e h.symm) s f
def jC(P:Program)(S:Nat->AI)(id:Nat)(t:TypeId)(x:AA)(c b:Option AA):Option Ht:=
 match x with
 |.N a=>match S a with
  |.L _ d=>(ce P (Bq S [(a,.G d)]) id t x c b).map λr=>⟨r.new++[(a,.G d)],r.made,r.res,r.obs⟩
  |_=>I
 |_=>I
theorem D5(M:BV φ ψ w0 w (Am F ρ S)){o}{g}{t:TypeId}{x}{E q}{e:Operand->Option AA}(s:o.op=.slice t x E q I){C}(T:g x=C.val ρ){z m}(y:E.map g=z.map (AA.val ρ))(u:q.map g=m.map (AA.val ρ)){id}{r}(h:jC P S id t C z m=Z r)(L:Cl r.obs)(l:∀j∈r.made,S j=.none)(f:FV S ρ r.made):
  FG P o g w (Hk φ ψ w0 F ρ S r):=by
 unfold jC at h;split at h<;>first|cases h|skip
 rename_i a
 split at h<;>first|cases h|skip
 rename_i el d D
 obtain⟨p,N,X⟩:=Ds.1 h;subst X
 have m:∀j∈p.made,j≠a:=λj n e=>by
  have:=l j n;rw[e,D]at this;cases this
 have k:FV (Bq S [(a,.G d)]) ρ p.made:=λb c j=>by
  simp only[Bq];split
  ·rename_i e
   subst e;have:=f b c j;refine AI.res_congr _ (λi q=>by cases q) (.inr (.inr (c j λR=>m j R rfl)))
  exact f b c j
 have Q:=pk (e:=e) (M.rowDat D) s T y u N L (λj n=>by
  simp only[Bq];rw[AO (m j n)]
  exact l j n) k
 refine Q.mono λv w' ⟨b,G,H,q3⟩=>⟨b,G,?_,q3⟩
 have e2:Bq S (p.new++[(a,.G d)])=Bq (Bq S [(a,.G d)]) p.new:=funext λj=>(nV S _ _ j).symm
 simp only;rw[e2];exact H
def TY(P:Program)(S:Nat->AI)(id:Nat)(t:TypeId)(x:AA)(b a:Option AA):Option Ht:=match ce P S id t x b a with
 |some r=>Z r
 |none=>jC P S id t x b a
theorem ZN(M:BV φ ψ w0 w (Am F ρ S)){o}{g}{t:TypeId}{x}{p n}{e:Operand->Option AA}(c:o.op=.slice t x p n I){i}(m:g x=i.val ρ){l k}(d:p.map g=l.map (AA.val ρ))(f:n.map g=k.map (AA.val ρ)){id}{r}(h:TY P S id t i l k=Z r)(q:Cl r.obs)(b:∀j∈r.made,S j=.none)(a:FV S ρ r.made):
  FG P o g w (Hk φ ψ w0 F ρ S r):=by
 unfold TY at h;split at h
 ·rename_i u s
  cases h
  exact pk (e:=e) M c m d f s q b a
 exact D5 (e:=e) M c m d f h q b a
end
section
variable{P:Program}{ι:Type}{φ ψ:Nat->Prop}{w0 w w':World}{F:ι->Bv}{ρ:Nat->Value}{S:Nat->AI}
theorem A1{φ}{k n}{d}{z}(h:dn k n=Z (d,z)):d.len=n/\d.sz=1/\z.cells= #[z]/\Ci w φ d (Ac n z):=by
 have b:∀(d:D) (z:Value),d.len=n->d.sz=1->(∀i,i<n->∃x,d.elem i=[x]/\IH w φ x z)->Ci w φ d (Ac n z):=by
  intro d z e l g i a j x c;obtain⟨y,m,f⟩:=g i O;rw[m]at c;cases j with
  |zero=>simp at c;subst c;exact⟨z,by rw[e]at a;rw[l,Nat.mul_one,Fx,LH,AZ a],f⟩
  |succ j=>simp at c
 unfold dn at h;split at h<;>first|cases h|skip
 ·exact⟨by simp[D.len],rfl,rfl,b _ _ (by simp[D.len]) rfl λi a=>⟨_,rfl,by simp[IH,a]⟩⟩
 ·exact⟨by simp[D.len],rfl,rfl,b _ _ (by simp[D.len]) rfl λi a=>⟨_,rfl,by simp[IH,a]⟩⟩
 ·exact⟨by simp[D.len],rfl,rfl,b _ _ (by simp[D.len]) rfl λi a=>⟨_,rfl,by simp[IH,a]⟩⟩
 ·exact⟨by simp[D.len],rfl,rfl,b _ _ (by simp[D.len]) rfl λi a=>⟨_,rfl,by simp only[IH,Bu,LH,a,if_true,Option.getD_some];exact CV.nil _ _ _⟩⟩
 exact⟨by simp[D.len],rfl,rfl,b _ _ (by simp[D.len]) rfl λi a=>⟨_,rfl,by simp only[IH,Bu,LH,a,if_true,Option.getD_some];exact CV.nil _ _ _⟩⟩
theorem Y5(M:BV φ ψ w0 w (Am F ρ S)){dk:TypeId->Nat}{o}{g}{t:TypeId}{l c}(C:o.op=.makeSlice t l c){la ca}(hl:g l=la.val ρ)(hc:g c=ca.val ρ){id}{r}(h:ir P dk id t la ca=Z r)(ho:Cl r.obs)(H:∀j∈r.made,S j=.none)(hi:FV S ρ r.made):
  FG P o g w (Hk φ ψ w0 F ρ S r):=by
 unfold ir at h;split at h
 case h_2=>cases h
 rename_i n m u L
 split at h
 case h_2=>cases h
 rename_i d z b sz v h1 T h3 D
 split at h
 case isFalse=>cases h
 rename_i R
 cases h
 simp only[Cl]at ho;obtain⟨hm,hn,hb,aB,N,-⟩:=ho;subst hm;subst N;subst R;obtain⟨y,k2,x,k4⟩:=A1 (w:=w) (φ:=EY φ (Am F ρ S)) h1;obtain⟨ie,p,s⟩:=Ds.1 h3;have X:ie.zero=Z v:=by unfold JT at D;rw[p]at D;exact D
 have G:ie.bytes=b:=by
  unfold TT at T;rw[p]at T;exact Option.some.inj T
 have q:(P.info? u).map (λi=>(i.zero,i.size,i.bytes))=Z (Z v,1,b):=by rw[p];simp[X,s,G]
 have E:b*m.toNat<=281474976710656:=by
  have:((b*m.toNat:Nat):Int)=b*m:=by rw[Int.natCast_mul,Int.toNat_of_nonneg hn]
  omega
 have f:=eW (P:=P) (Pf L) q (by rw[x];rfl) O m.toNat E O w
 rw[Int.toNat_of_nonneg hn]at f;have k:=(jT w v.cells.toList m.toNat 1 u (by rw[x];rfl) O).1
 rw[x,Up, <-y, <-k2]at k;obtain⟨Q,q1,q2,q3⟩:=M.newRow (id:=id) (e:=u) (d:=d) ((Below.refl _ _).alloc (BR _) _) (H id At) hi k (by rw[y];exact k4)
 have a:(execOp g o).run P w=.ok (.value (.slice (Z ⟨w.heap.size,0,I⟩) m.toNat m.toNat)) (w.alloc (.cells (Jp v.cells.toList m.toNat).toArray u)):=by
  simp only[execOp,C,Sem.run_bind,hl,hc,AA.val,f];rfl
 rw[x,Up, <-y]at a;exact .inl ⟨_,_,a,Q,q1,q2,q3⟩
end
def AA.agN:AA->AA
 |.v (.agg l)=>.agg (l.toList.map .v)
 |x=>x
theorem AA.val_agN(a)(x:AA):x.agN.val a=x.val a:=by
 cases x<;>try rfl
 rename_i v
 cases v<;>try rfl
 simp only[AA.agN,AA.val,cS,Array.toArray_toList]
def oG(e:Operand->Option AA)(x:Operand):Option AA:=(e x).map AA.agN
def gl(P:Program)(S:Nat->AI)(t:TypeId):AA->Option Ht
 | .N id => match S id with
  | .L e (.C l) => match Lo P t with
   |some a=>match JT P a with
    |some (.int .i64 0)=>Z ⟨[(id,.L e (.C (Ac (J l) 0)))],[],.v (.tuple #[]),[0<J l]⟩
    |_=>I
   |none=>I
  |_=>I
 |_=>I
theorem vp{Ad xs}(h:J Ad=J xs):DH xs 0 Ad=Ad:=by
 apply List.ext_getElem?;intro q;rw[kj,XN _ _ _ _ O];by_cases b:q<J Ad
 ·rw[AZ O];simp
 rw[AO O,FO O,FO O]
section
variable{P:Program}{ι:Type}{φ ψ:Nat->Prop}{w0 w w':World}{F:ι->Bv}{ρ:Nat->Value}{S:Nat->AI}
theorem zG(M:BV φ ψ w0 w (Am F ρ S)){o}{g}{t:TypeId}{x}(R:o.op=.call {callee:=.builtin .clear,args:= #[x],argTypes:= #[t]}){av}(hx:g x=av.val ρ){r}(h:gl P S t av=Z r)(ho:Cl r.obs):
  FG P o g w (Hk φ ψ w0 F ρ S r):=by
 unfold gl at h;split at h<;>first|cases h|skip
 rename_i a
 split at h<;>first|cases h|skip
 rename_i e l hS
 split at h<;>first|cases h|skip
 rename_i el n
 split at h<;>first|cases h|skip
 rename_i hz
 simp only[Cl]at ho;have hi:=ho.1;obtain⟨xs,C,aI⟩:=M.rowAt hS;obtain⟨aC,f⟩:=C;simp only[D.len,D.sz]at aC f;rcases f with⟨_,hn⟩|⟨b,E,d,T,_,hb,G,H,N,aH⟩
 ·omega
 obtain⟨Ad,p⟩:∃Ad,Ad=Ac (J l) (Value.int .i64 0):=⟨_,rfl⟩;have aB:J Ad=J l:=by rw[p];simp
 have q:0+J Ad<=J d.toList:=by
  have aJ:J d.toList=E*1:=by rw[Array.length_toList];exact N
  omega
 have u:=run_storeCells_at (P:=P) b 0 e Ad 0 d w hb (by simpa using q) (by intro v Q;rw[p]at Q;rw[List.eq_of_mem_replicate Q];rfl)
 simp only[Fx]at u;rw[<-Tj _ _ _ q]at u
 have aG:P.underlying t=Z (.slice el):=by
  unfold Lo at n;split at n
  ·rename_i hq;cases n;exact hq
  cases n
 have z:(Builtin.zeroCells (Value.int .i64 0).cells (J l)).toList=Ad:=by
  rw[p,show(Value.int .i64 0).cells= #[Value.int .i64 0]from rfl];simp[Builtin.zeroCells];apply List.ext_getElem
  ·simp
  intro i h1 h2;simp[Nat.mod_one]
 have aF:(Builtin.clear_ #[t] o.type #[ρ a]).run P w=.ok (.tuple #[]) (w.setRow b (DH d.toList 0 Ad).toArray):=by
  rw[T];obtain⟨m,hm⟩:∃m,J l=m+1:=⟨J l-1,O⟩;rw[hm]at z ⊢;have aD:=pb hz;simp[Builtin.clear_,run_underlying aG,aD,z,u]
 have L:(execOp g o).run P w=.ok (.value (.tuple #[])) (w.setRow b (DH d.toList 0 Ad).toArray):=by
  simp only[AA.val]at hx;simp only[execOp,R,resolve,invoke,builtin,Sem.run_bind,Sem.run_pure,Result.andThen_ok,List.map_toArray,Fa,List.map_nil,hx,aF]
 have y:∀c,((S a).res ρ a).blk c↔c=b:=λc=>by
  rw[hS];simp only[AI.res,Bv.blk,T,Value.ownBlock,Option.some.injEq];exact⟨λh=>h.symm,λh=>h.symm⟩
 have hk:Dl (λc=>¬((S a).res ρ a).blk c) w (w.setRow b (DH d.toList 0 Ad).toArray):=
  ⟨rfl,rfl,rfl,At,λc _ X=>setRow_other _ _ _ _ λe=>X ((y c).2 e)⟩
 have s:Ad=BW (Ac (J l) 0):=by rw[p];simp[BW]
 have M1:BV φ ψ w0 (w.setRow b (DH d.toList 0 Ad).toArray) (Am F ρ (Bq S [(a,.L e (.C (Ac (J l) 0)))])):=by
  refine M.one a _ [] (λaE h j=>by rw[show aE=ρ from funext λk=>h k At]) (FK.refl _ _) hk (λc X=>.inl (by rw[hS];exact X)) ?_
  simp only[AI.res,D.len,D.sz,FX];refine⟨λxs=>Ci.nice _ xs,Ad,?_,?_⟩
  ·refine⟨by rw[aB];omega,.inr ⟨b,E,(DH d.toList 0 Ad).toArray,T,Di _,setRow_heap _ _ _ _ _ _ hb,G,H,?_,?_⟩⟩
   ·simp[Qi,N]
   have h1:=vp (Ad:=Ad) (xs:=xs) O;exact(Yv Ad d.toList 0 (J l*1)).trans (by rw[aH];exact h1)
  rw[s];exact Ci.ints' _
 exact .inl ⟨_,_,L,ρ,FK.refl _ _,M1,rfl⟩
end
def Xi(P:Program)(g:TypeId->Nat)(e:Operand->Option AA)(S:Nat->AI)(id:Nat):Op->Option Ht
 |.load t x=>(e x).bind λa=>jy P S id t a
 |.store t x y=>match e x,e y with
  |some a,Z v=>UI P S t v a
  |_,_=>I
 |.alloc t=>match JT P t with
  |some z=>if z.cells.toList.all (·.oneCell')then Z ⟨[(id,.C (z.cells.toList.map .v))],[id],.P id 0,[]⟩else I
  |none=>I
 |.box _ x=>(e x).bind λv=>fR S id v
 | .buildSlice t f d => match ii P g id t f d.toList with
  |some r=>Z r
  | none => match Vx P g e S id t f d.toList with
   |some r=>Z r
   |none=>match Zx P g e S id t f d.toList with
    |some r=>Z r
    |none=>Zx P g (oG e) S id t f d.toList
 |.makeSlice t l c=>match e l,e c with
  |some a,Z b=>ir P g id t a b
  |_,_=>I
 |.slice t x k j I=>match e x,k.map e,j.map e with
  |some a,I,I=>TY P S id t a I I
  |some a,Z (Z l),I=>TY P S id t a (Z l) I
  |some a,I,Z (Z h)=>TY P S id t a I (Z h)
  |some a,Z (Z l),Z (Z h)=>TY P S id t a (Z l) (Z h)
  |_,_,_=>I
 | .call { callee := .builtin .append, args, argTypes } =>
  match args.toList,argTypes.toList with
  | [s, x], [t, i] => match e s, e x with
   |some a,Z b=>match jH P g S id t i a b with
    |some r=>Z r
    |none=>fj P S id t i a b
   |_,_=>I
  |_,_=>I
 |.call {callee:=.builtin .clear,args,argTypes}=>
  match args.toList,argTypes.toList with
  |[x],[t]=>(e x).bind λa=>gl P S t a
  |_,_=>I
 |_=>I
def PO(P:Program)(b:TypeId->Nat)(e:Operand->Option AA)(S:Nat->AI)(id:Nat)(a:Op):Option Ht:=
 match Wi P e S a with
 |some r=>Z ⟨[],[],r.1,r.2⟩
 |none=>Xi P b e S id a
section
variable{P:Program}{ι:Type}{φ ψ:Nat->Prop}{w0 w w':World}{F:ι->Bv}{ρ:Nat->Value}{S:Nat->AI}
theorem wP(M:BV φ ψ w0 w (Am F ρ S)){o}{g}{t:TypeId}{a}{v:Value}(c:(execOp g o).run P w=.ok (.value (.pointer (Z ⟨w.heap.size,0,I⟩))) (w.alloc (.cells v.cells t)))(h:v.cells=(AA.vals ρ a).toArray){id}(n:id∉AA.idsL a)(p:S id=.none)(m:FV S ρ [id]):
  FG P o g w (Hk φ ψ w0 F ρ S ⟨[(id,.C a)],[id],.P id 0,[]⟩):=by
 have d:FK [id] ρ (λj=>if j=id then .pointer (Z ⟨w.heap.size,0,I⟩)else ρ j):=λj l=>by
  have:j≠id:=by simpa using l
  simp[this]
 refine .inl ⟨_,_,c,_,d,M.one id _ [id] m d (Dl.any ((Below.refl _ _).alloc (BR _) _)) (λg f=>?_) ?_,?_⟩
 ·simp only[AI.res,if_true,KF]at f
  exact .inr (by rw[show g=w.heap.size from f];exact BR _)
 ·simp only[AI.res,if_true,KF,Bv.holds]
  have e:AA.vals (λj=>if j=id then .pointer (Z ⟨w.heap.size,0,I⟩)else ρ j) a=AA.vals ρ a:=AA.vals_congr _ λk i=>by
   have:k≠id:=λe=>n (e▸i)
   simp[this]
  rw[e,h];exact Bl.new _ _ _
 simp[AA.val,KF]
theorem I0(l:List Value):AA.idsL (l.map .v)=[]:=by
 induction l with
 |nil=>rfl
 |cons a r b=>simp[AA.idsL,AA.ids,b]
theorem vE(M:BV φ ψ w0 w (Am F ρ S)){dk:TypeId->Nat}{o}{e}{g}(i:∀x∈o.op.operands,∀v,e x=Z v->g x=v.val ρ){id}{r}(h:PO P dk e S id o.op=Z r)(C:Cl r.obs)(f:∀j∈r.made,S j=.none)(u:FV S ρ r.made):
  FG P o g w (Hk φ ψ w0 F ρ S r):=by
 unfold PO at h;split at h
 ·rename_i q hq
  cases h
  exact .inl ⟨_,_,g9 M i (r:=q.1) (obs:=q.2) hq C,ρ,FK.refl _ _,M,rfl⟩
 rename_i R
 clear R;cases d:o.op<;>rw[d]at h i<;>simp only[Xi]at h<;>first|cases h|skip
 case load t x=>
  obtain⟨a,k,n⟩:=Option.bind_eq_some_iff.1 h;exact L0 M d (i x Ek _ k) n C f u
 case store t x y=>
  split at h
  case h_2=>cases h
  rename_i a v k n
  exact yI M d (i x Ek _ k) (i y Ek _ n) h C
 case alloc t=>
  split at h
  case h_2=>cases h
  rename_i z hz
  split at h
  case isFalse=>cases h
  cases h
  have D:(execOp g o).run P w=.ok (.value (.pointer (Z ⟨w.heap.size,0,I⟩))) (w.alloc (.cells z.cells t)):=by
   simp[execOp,d,Instr.alloc,pb hz,newVar,newRow]
  exact wP M D (by rw[cS]) (by rw[I0];simp) (f id At) u
 case box t x=>
  obtain⟨a,k,n⟩:=Option.bind_eq_some_iff.1 h;have hx:=i x Ek _ k
  have D:(execOp g o).run P w=.ok (.value (.pointer (Z ⟨w.heap.size,0,I⟩))) (w.alloc (.cells (a.val ρ).cells t)):=by
   simp[execOp,d,Instr.box,newVar,newRow,hx]
  exact I7 M D rfl n f u
 case buildSlice t aG aE=>
  split at h
  ·rename_i r' Q
   cases h
   exact Z7 M d Q f u
  split at h
  ·rename_i r' Q
   cases h
   exact c8 M d (λp hp v hv=>i p.2 (by simp[Op.operands];exact⟨p.1,by simpa using hp⟩) v hv) Q f u
  split at h
  ·rename_i r' Q
   cases h
   exact mK M d (λp hp v hv=>i p.2 (by simp[Op.operands];exact⟨p.1,by simpa using hp⟩) v hv) Q C f u
  refine mK M d (e:=oG e) (λp hp v hv=>?_) h C f u
  obtain⟨y,k,rfl⟩:=Ds.1 hv;rw[AA.val_agN];exact i p.2 (by simp[Op.operands];exact⟨p.1,by simpa using hp⟩) y k
 case makeSlice t l c=>
  split at h
  case h_2=>cases h
  rename_i a b k n
  exact Y5 M d (i l Ek _ k) (i c Ek _ n) h C f u
 case slice t x lo H mx=>
  cases mx with
  |some mx=>simp only[]at h;cases h
  |none=>
  simp only[]at h;split at h<;>first|cases h|skip
  ·rename_i a k n N
   have:lo=none:=by cases lo<;>simp at n ⊢
   subst this;have:H=none:=by cases H<;>simp at N ⊢
   subst this;exact ZN M (e:=e) d (i x Ek _ k) rfl rfl h C f u
  ·rename_i a l k n N
   obtain⟨aB,rfl,aC⟩:=Ds.1 n;have:H=none:=by cases H<;>simp at N ⊢
   subst this;exact ZN M (e:=e) d (i x Ek _ k) (by simp[i aB Ek _ aC]) rfl h C f u
  ·rename_i a l k n N
   obtain⟨E,rfl,T⟩:=Ds.1 N;have:lo=none:=by cases lo<;>simp at n ⊢
   subst this;exact ZN M (e:=e) d (i x Ek _ k) rfl (by simp[i E Ek _ T]) h C f u
  rename_i a l hh k n N
  obtain⟨aB,rfl,aC⟩:=Ds.1 n;obtain⟨E,rfl,T⟩:=Ds.1 N;exact ZN M (e:=e) d (i x Ek _ k) (by simp[i aB Ek _ aC]) (by simp[i E Ek _ T]) h C f u
 case call c=>
  obtain⟨G,L,m⟩:=c;cases G<;>(try simp only[]at h)<;>first|cases h|skip
  rename_i b
  cases b<;>(try simp only[]at h)<;>first|cases h|skip
  ·split at h<;>first|cases h|skip
   rename_i s x t t' hx ht
   have aD:L= #[s,x]:=by apply Array.ext';simpa using hx
   have X:m= #[t,t']:=by apply Array.ext';simpa using ht
   subst aD;subst X;split at h
   case h_2=>cases h
   rename_i a b k n
   split at h
   ·rename_i r' Q
    cases h
    exact Z6 M d (i s (by simp[Op.operands,Call.operands]) _ k) (i x (by simp[Op.operands,Call.operands]) _ n) Q C f u
   exact zw M d (i s (by simp[Op.operands,Call.operands]) _ k) (i x (by simp[Op.operands,Call.operands]) _ n) h C f u
  split at h<;>first|cases h|skip
  rename_i x t hx ht
  have aD:L= #[x]:=by apply Array.ext';simpa using hx
  have X:m= #[t]:=by apply Array.ext';simpa using ht
  subst aD;subst X;obtain⟨a,k,n⟩:=Option.bind_eq_some_iff.1 h;exact zG M d (i x (by simp[Op.operands,Call.operands]) _ k) n C
end
structure AN where
 f:FuncId
 args:List AA
 pre:List AI
 post:List AI
 res:AA
def AN.ok(P:Program)(c:AN):Prop:=∀(h:Type) (d e:Nat->Prop) (g w:World) (F:h->Bv) (b:Nat->Value),BV d e g w (Am F b (An c.pre))->
 Calls P c.f (AA.vals b c.args).toArray w λx j=>∃a,(∀i,i<J c.pre->a i=b i)/\x=.returned (c.res.val a)/\BV d e g j (Am F a (An c.post))
def Xn(P:Program)(f:FuncId):Bool:=
 match P.funcs[f]? with
 |some a=>a.body.isSome&& !(a.name== "runtime.NumGoroutine")
 |none=>U
theorem mo{P}{f}(h:Xn P f=V)(a)(w):(callFunc f a).run P w=.ok (.enter f a) w:=by
 unfold Xn at h;cases b:P.funcs[f]? with
 |none=>rw[b]at h;cases h
 |some e=>
  rw[b]at h;simp only[Aj,Cn]at h;cases d:e.body with
  |none=>rw[d]at h;cases h.1
  |some c=>exact fu b h.2 d a w
def Ee(j:Nat):List Nat->Bool
 |[]=>U
 |x::r=>CW j x||Ee j r
def nodupB:List Nat->Bool
 |[]=>V
 |x::r=> !Ee x r&&nodupB r
theorem Gk{j}{l}:Ee j l=V↔j∈l:=by
 induction l with
 |nil=>simp[Ee]
 |cons x r a=>simp[Ee,CW,a]
theorem et{l}(h:nodupB l=V):l.Nodup:=by
 induction l with
 |nil=>simp
 |cons x r b=>
  simp only[nodupB,Aj,Cn]at h;refine List.nodup_cons.2 ⟨λa=>?_,b h.2⟩
  rw[Gk.2 a]at h;cases h.1
def Jq(n:Nat)(l:List Nat):Bool:=l.all λj=>Y (j<n)
theorem Lf{n}{l}(h:Jq n l=V):∀j∈l,j<n:=λj a=>by simpa using Bt.1 h j a
def JX:List Nat->List AI->List (Nat×AI)
 |a::r,x::s=>(a,x)::JX r s
 |_,_=>[]
def CX(a:List Nat)(i:Nat):Nat:=a.getD i 0
def Ln:List Nat->List AI->List AI->List (Nat×AI)
 |a::r,p::q,x::s=>match p,x with
  |.G _,.G _=>Ln r q s
  |.L _ _,.kept (Z _) _=>Ln r q s
  |.Q _,.kept I _=>Ln r q s
  |_,_=>(a,x.unK)::Ln r q s
 |a::r,[],x::s=>(a,x.unK)::Ln r [] s
 |_,_,_=>[]
def MH:List AI->List AI->List AI
 |p::q,x::s=>match p,x with
  |.G d,.G _=>.G d::MH q s
  |.L e d,.kept (Z _) _=>.L e d::MH q s
  |.Q d,.kept I _=>.Q d::MH q s
  |_,_=>MH q s
 |_,_=>[]
def Lz:List AI->List AI->List AI
 |p::q,x::s=>match p,x with
  |.G _,.G e=>.G e::Lz q s
  |.L _ _,.kept (Z e) d=>.L e d::Lz q s
  |.Q _,.kept I d=>.Q d::Lz q s
  |_,_=>Lz q s
 |_,_=>[]
def Ru:AI->AI->Bool
 |.G _,.G _=>V
 |.L _ _,.kept (Z _) _=>V
 |.Q _,.kept I _=>V
 |_,_=>U
theorem zH(a)(r)(p)(q)(x)(s):Ln (a::r) (p::q) (x::s)=if Ru p x then Ln r q s else(a,x.unK)::Ln r q s:=by
 cases p<;>cases x<;>first|rfl|(rename_i e d;cases e<;>rfl)|(rename_i d e;cases e<;>rfl)|(rename_i e d f g;cases f<;>rfl)|(rename_i d f g;cases f<;>rfl)
theorem wD(p)(q)(x)(s):MH (p::q) (x::s)=if Ru p x then p::MH q s else MH q s:=by
 cases p<;>cases x<;>first|rfl|(rename_i e d;cases e<;>rfl)|(rename_i d e;cases e<;>rfl)|(rename_i e d f g;cases f<;>rfl)|(rename_i d f g;cases f<;>rfl)
theorem ab0(p)(q)(x)(s):Lz (p::q) (x::s)=if Ru p x then x.unK::Lz q s else Lz q s:=by
 cases p<;>cases x<;>first|rfl|(rename_i e d;cases e<;>rfl)|(rename_i d e;cases e<;>rfl)|(rename_i e d f g;cases f<;>rfl)|(rename_i d f g;cases f<;>rfl)
theorem gX:∀{P X:List AI} {i:Nat} {p x:AI},MH P X=Lz P X->P[i]? =Z p->X[i]? =Z x->Ru p x=V->p=x.unK
 |[],_,_,_,_,_,h,_,_=>by simp at h
 |_::_,[],_,_,_,_,_,h,_=>by simp at h
 | p :: q, x :: s, i, e, d, h, b, c, a => by
  rw[wD,ab0]at h;cases i with
  |zero=>
   simp at b c;subst b c;rw[AZ a,AZ a]at h;exact(List.cons.inj h).1
  |succ i=>
   refine gX (P:=q) (X:=s) (i:=i) ?_ (by simpa using b) (by simpa using c) a
   split at h
   ·exact(List.cons.inj h).2
   exact h
theorem aa4{P X}{i:Nat}{d e}(h:MH P X=Lz P X)(a:P[i]? =Z (.G d))(b:X[i]? =Z (.G e)):d=e:=by
 have:=gX h a b rfl;simpa[AI.unK]using this
theorem jq{S}:∀{b:List Nat} {P X:List AI},b.Nodup->(∀(i j:Nat) (p x:AI),b[i]? =Z j->P[i]? =Z p->X[i]? =Z x->Ru p x=V->S j=x.unK)->∀j,Bq S (Ln b P X) j=Bq S (JX b (X.map AI.unK)) j
 |[],_,_,_,_,j=>by simp[Ln,JX]
 |a::r,P,[],_,_,j=>by cases P<;>simp[Ln,JX]
 |a::r,[],x::s,f,h,j=>by
  simp only[Ln,JX,Bq,Fa];rw[jq (List.nodup_cons.1 f).2 (λi j d e _ g _=>by simp at g) j]
 | a :: r, p :: q, x :: s, f, h, j => by
  have c:=jq (S:=S) (P:=q) (X:=s) (List.nodup_cons.1 f).2 (λi j d e n g k l=>h (i+1) j d e (by simpa using n) (by simpa using g) (by simpa using k) l) j
  rw[zH];simp only[JX,Fa];split
  ·rename_i m
   rw[c];simp only[Bq];split
   ·rename_i t
    subst t
    rw[br λo=>(List.nodup_cons.1 f).1 (by
     have:∀{b:List Nat} {L:List AI} {j:Nat},j∈(JX b L).map (·.1)->j∈b:=fun{b}=>by
      induction b with
      |nil=>intro L j h;simp[JX]at h
      |cons a r c=>intro L j h;cases L with
       |nil=>simp[JX]at h
       |cons y s=>simp only[JX,Fa,Eb]at h ⊢;exact h.imp id c
     exact this o)]
    exact h 0 j p x rfl rfl rfl m
   rfl
  simp only[Bq];rw[c]
def Ye:AA->Option (Nat×List AA×List AA)
 |.fn f l=>Z (f,[],l)
 |.bm f l=>Z (f,l,[])
 |_=>I
def eK(P:Program)(e:Operand->Option AA)(S:Nat->AI)(id:Nat)(c:AN)(a:List Nat):Op->Option Ht
 | .call { callee := .value fo, args, .. } =>
  match(e fo).bind Ye,args.toList.mapM e with
  | some (f, _, _), Z b =>
   if CW f c.f&&Xn P f&&CW (J a) (J c.pre)&&Y (J c.pre<=J c.post)&&nodupB (a++List.range' id (J c.post-J c.pre))&&c.post.all (λx=>Jq (J c.post) x.ids)&&Jq (J c.post) c.res.ids then
    Z ⟨Ln (a++List.range' id (J c.post-J c.pre)) c.pre (c.post.map (AI.ren (CX (a++List.range' id (J c.post-J c.pre))))),
     List.range' id (J c.post-J c.pre),c.res.ren (CX (a++List.range' id (J c.post-J c.pre))),
     []⟩
   else I
  |_,_=>I
 |_=>I
def Yf(e:Operand->Option AA)(S:Nat->AI)(id:Nat)(c:AN)(b:List Nat):Op->List (List AA×List AI)×List (List AA×List AI)
 |.call {callee:=.value fo,args, .. }=>
  match(e fo).bind Ye,args.toList.mapM e with
  |some (_,fst,a),Z d=>([(fst++(d++a),b.map S++MH c.pre c.post)],[(AA.renL (CX (b++List.range' id (J c.post-J c.pre))) c.args,c.pre.map (AI.ren (CX (b++List.range' id (J c.post-J c.pre))))++Lz c.pre c.post)])
  |_,_=>([],[])
 |_=>([],[])
section
variable{P:Program}{ι:Type}{φ ψ:Nat->Prop}{w0 w w':World}{F:ι->Bv}{ρ:Nat->Value}{S:Nat->AI}
theorem to{S}:∀{f:List Nat} {L:List AI} {i j:Nat} {x:AI},f.Nodup->f[i]? =Z j->L[i]? =Z x->Bq S (JX f L) j=x
 |[],_,_,_,_,_,h,_=>by simp at h
 |a::r,[],_,_,_,_,_,h=>by simp at h
 |a::r,y::s,0,j,x,_,c,d=>by
  simp at c d;subst c d;simp[JX,Bq]
 |a::r,y::s,i+1,j,x,k,c,d=>by
  have b:r[i]? =Z j:=by simpa using c
  have g:j≠a:=λe=>(List.nodup_cons.1 k).1 (e▸FF b)
  simp only[JX,Bq,AO g];exact to (List.nodup_cons.1 k).2 b (by simpa using d)
theorem ov:∀{b:List Nat} {L:List AI} {j:Nat},j∈(JX b L).map (·.1)->j∈b
 |[],_,_,h=>by simp[JX]at h
 |a::r,[],_,h=>by simp[JX]at h
 |a::r,y::s,j,h=>by
  simp only[JX,Fa,Eb]at h ⊢;exact h.imp id ov
theorem Iy{a}{i j}(h:a[i]? =Z j):CX a i=j:=by simp[CX,Bu,h]
theorem Sr{a:List Nat}(d:a.Nodup){i j}(h:a[i]? =Z j):a.idxOf j=i:=by
 have e:=(EA.1 h).1;have b:=FF h
 have c:a[a.idxOf j]? =Z j:=by
  have:=List.idxOf_lt_length_of_mem b;rw[CF this,List.getElem_idxOf]
 exact(List.getElem?_inj (List.idxOf_lt_length_of_mem b) d).1 (c.trans h.symm)
theorem AN.okPost{c:AN}(l:c.ok P)(a)(h:∀ρ i,(An a i).res ρ i=(An c.post i).res ρ i):AN.ok P ⟨c.f,c.args,c.pre,a,c.res⟩:=by
 intro ι φ ψ w0 w F ρ M;refine(l ι φ ψ w0 w F ρ M).mono ?_;rintro x w' ⟨b,d,g,m⟩;refine⟨b,d,g,?_⟩
 have e:Am F b (An a)=Am F b (An c.post):=by
  funext k;cases k with
  |inl i=>rfl
  |inr j=>exact h b j
 simp only;rw[e];exact m
theorem H7{f:AI->AI}(a:f .none=.none)(l)(i):An (l.map f) i=f (An l i):=by
 simp only[An,Bu,List.getElem?_map];cases l[i]? with
 |none=>exact a.symm
 |some x=>rfl
theorem yB(M:BV φ ψ w0 w (Am F ρ S)){o}{e}{g}{fo}{y}{r}(aJ:o.op=.call {callee:=.value fo,args:=y,argTypes:=r})
  (hg:∀x∈(Op.call {callee:=.value fo,args:=y,argTypes:=r}).operands,∀v,e x=Z v->g x=v.val ρ) {c:AN} (hc:c.ok P) {fst E xs} (hf:(e fo).bind Ye=Z (c.f,fst,E)) (aL:y.toList.mapM e=Z xs) {τ a} {id m} (aO:m=J c.post-J c.pre) (aF:τ++List.range' id m=a)
  (Q:Xn P c.f=V) (aV:J τ=J c.pre) (aU:J c.pre<=J c.post) (H:a.Nodup) (aC:c.post.all (λx=>Jq (J c.post) x.ids)=V) (aD:Jq (J c.post) c.res.ids=V) (T:fst++(xs++E)=AA.renL (CX a) c.args) (aB:∀i j,i<J c.pre->a[i]? =Z j->S j=((An c.pre) i).ren (CX a))
  (L) (aH:Bq S L=Bq S (JX a (c.post.map (AI.ren (CX a))))) (hi:FV S ρ (List.range' id m)):FG P o g w (Hk φ ψ w0 F ρ S ⟨L,List.range' id m,c.res.ren (CX a),[]⟩):=by
 subst aO;have aS:J a=J c.post:=by rw[<-aF,Az,List.length_range'];omega
 have C:∀i,J c.pre<=i->∀j,a[i]? =Z j->j∈List.range' id (J c.post-J c.pre):=λi d j z=>by
  rw[<-aF,Ip O]at z;exact FF z
 let F':ι ⊕ Nat->Bv:=λk=>match k with|.inl i=>F i|.inr j=>if Ee j a then Bv.none else(S j).res ρ j
 have M1:BV φ ψ w0 w (Am F' (λi=>ρ (CX a i)) (An c.pre)):=by
  refine M.map (λk:(ι ⊕ Nat) ⊕ Nat=>(match k with|.inl (.inl i)=>Z (.inl i)|.inl (.inr j)=>if Ee j a then I else Z (.inr j)|.inr i=>if i<(J c.pre)then Z (.inr (CX a i))else I:Option (ι ⊕ Nat))) ?_ ?_
  ·intro k k' x n l
   match k,k' with
   |.inl (.inl i),.inl (.inl R)=>simp at n l;subst n;simpa using l.symm
   |.inl (.inl i),.inl (.inr j')=>simp at n;subst n;simp at l
   |.inl (.inl i),.inr j'=>simp at n;subst n;simp at l
   |.inl (.inr j),.inl (.inl R)=>simp at l;subst l;simp at n
   |.inr j,.inl (.inl R)=>simp at l;subst l;simp at n
   |.inl (.inr j),.inl (.inr j')=>
    simp at n l;rw[<-n.2]at l;rw[Sum.inr.inj l.2]
   |.inl (.inr j),.inr R=>
    simp at n l;rw[<-n.2]at l;have z:=Sum.inr.inj l.2;have b:R<J a:=O;have:Ee j a=true:=Gk.2 (by rw[<-z,Iy (CF b)];exact EL b)
    rw[this]at n;cases n.1
   |.inr i,.inl (.inr j')=>
    simp at n l;rw[<-n.2]at l;have z:=Sum.inr.inj l.2;have b:i<J a:=O;have:Ee j' a=true:=Gk.2 (by rw[z,Iy (CF b)];exact EL b)
    rw[this]at l;cases l.1
   |.inr i,.inr R=>
    simp at n l;rw[<-n.2]at l;have z:=Sum.inr.inj l.2;have b:i<J a:=O;have s:R<J a:=O;rw[Iy (CF b),Iy (CF s)]at z;have:=(List.getElem?_inj b H).1 ((CF b).trans (by rw[<-z];exact(CF s).symm))
    rw[this]
  intro k
  match k with
  |.inl (.inl i)=>exact .inl ⟨.inl i,rfl,rfl⟩
  |.inl (.inr j)=>
   cases t:Ee j a
   ·exact .inl ⟨.inr j,by simp[t],by simp[Am,F',t]⟩
   exact .inr (by simp[Am,F',t])
  | .inr i =>
   by_cases b:i<J c.pre
   ·refine .inl ⟨.inr (CX a i),by simp[b],?_⟩
    have s:i<J a:=O;have n:=aB i _ b (CF s);simp only[Am];rw[Iy (CF s),n, <-AI.res_ren,Iy (CF s)]
   refine .inr ?_;simp only[Am,An,Bu,FO (Nat.le_of_not_lt b)];rfl
 have N:=hc _ φ ψ w0 w F' (λi=>ρ (CX a i)) M1
 obtain⟨av,aM,G⟩:=Option.bind_eq_some_iff.1 hf;have aR:=hg fo (by simp[Op.operands,Call.operands]) _ aM
 have aQ:=cv (ρ:=ρ) (g:=g) (λx hx v hv=>hg x (by simp[Op.operands,Call.operands];exact .inr (by simpa using hx)) v hv) aL
 have aE:(execOp g o).run P w=.ok (.enter c.f (AA.vals (λi=>ρ (CX a i)) c.args).toArray) w:=by
  have e1:(AA.vals ρ fst).toArray++y.map g++(AA.vals ρ E).toArray=(AA.vals (λi=>ρ (CX a i)) c.args).toArray:=by
   rw[<-AA.vals_ren (ρ:=ρ) (σ:=CX a) c.args, <-T,AA.vals_append,AA.vals_append, <-aQ];apply Array.ext';simp
  simp only[execOp,aJ,resolve,Deferred.ofValue,Sem.run_bind];rw[aR];cases av<;>simp only[Ye,Option.some.injEq,Prod.mk.injEq,reduceCtorEq]at G
  ·obtain⟨rfl,rfl,rfl⟩:=G
   simp only[AA.val,Sem.run_pure,Result.andThen_ok,invoke];simp only[AA.vals]at e1;rw[e1];exact mo Q _ _
  obtain⟨rfl,rfl,rfl⟩:=G;simp only[AA.val,Sem.run_pure,Result.andThen_ok,invoke];simp only[AA.vals]at e1;rw[e1];exact mo Q _ _
 refine .inr (.inr ⟨_,_,_,aE,N.mono ?_⟩);rintro x w' ⟨p,n,rfl,M2⟩;refine⟨_,rfl,λj=>if Ee j a then p (a.idxOf j)else ρ j,?_,?_,?_⟩
 ·intro j z
  show(if Ee j a then p (a.idxOf j)else ρ j)=ρ j
  cases t:Ee j a
  ·rfl
  obtain⟨i,d⟩:=List.mem_iff_getElem?.1 (Gk.1 t)
  have b:i<J c.pre:=by
   rcases Du i (J c.pre)with h|h
   ·exact h
   exact absurd (C i h j d) z
  simp only[if_true];rw[Sr H d,n i b,Iy d]
 ·have aN:∀j,j∉List.range' id (J c.post-J c.pre)->(λj=>if Ee j a then p (a.idxOf j)else ρ j) j=ρ j:=by
   intro j z;show(if Ee j a then p (a.idxOf j)else ρ j)=ρ j
   cases t:Ee j a
   ·rfl
   obtain⟨i,d⟩:=List.mem_iff_getElem?.1 (Gk.1 t)
   have b:i<J c.pre:=by
    rcases Du i (J c.pre)with h|h
    ·exact h
    exact absurd (C i h j d) z
   simp only[if_true];rw[Sr H d,n i b,Iy d]
  have D:∀i,i<J c.post->(λj=>if Ee j a then p (a.idxOf j)else ρ j) (CX a i)=p i:=by
   intro i b;have d:=CF (show i<(J a) by omega)
   show(if Ee (CX a i) a then p (a.idxOf (CX a i))else ρ (CX a i))=p i
   rw[Iy d,Gk.2 (EL _),AZ rfl,Sr H d]
  rw[aH];refine M2.map (λk:ι ⊕ Nat=>(match k with|.inl i=>Z (.inl (.inl i))|.inr j=>if Ee j a then Z (.inr (a.idxOf j))else Z (.inl (.inr j)):Option ((ι ⊕ Nat) ⊕ Nat))) ?_ ?_
  ·intro k k' x l u
   match k,k' with
   |.inl i,.inl R=>simp at l u;rw[<-l]at u;simpa using u.symm
   |.inl i,.inr j=>simp at l;subst l;simp at u;split at u<;>simp at u
   |.inr j,.inl i=>simp at u;subst u;simp at l;split at l<;>simp at l
   |.inr j,.inr j'=>
    simp only at l u;cases t:Ee j a<;>cases aI:Ee j' a<;>rw[t]at l<;>rw[aI]at u<;>simp at l u<;>subst l<;>simp at u
    ·rw[u]
    obtain⟨i,aG⟩:=List.mem_iff_getElem?.1 (Gk.1 t);obtain⟨R,X⟩:=List.mem_iff_getElem?.1 (Gk.1 aI);rw[Sr H aG,Sr H X]at u;subst u;rw[aG]at X;cases X;rfl
  intro k
  match k with
  |.inl i=>exact .inl ⟨_,rfl,rfl⟩
  | .inr j =>
   cases t:Ee j a
   ·refine .inl ⟨.inl (.inr j),by simp[t],?_⟩
    simp only[Am,F',t];rw[br λhh=>by have:=Gk.2 (ov hh);rw[t]at this;cases this]
    exact hi _ aN j
   obtain⟨i,d⟩:=List.mem_iff_getElem?.1 (Gk.1 t);have b:i<J c.post:=by have:=(EA.1 d).1;omega
   refine .inl ⟨.inr (a.idxOf j),by simp[t],?_⟩
   rw[Sr H d];have hx:(c.post.map (AI.ren (CX a)))[i]? =Z ((c.post[i]).ren (CX a)):=by simp[b]
   simp only[Am];rw[to H d hx]
   conv=>lhs;rw[<-Iy d]
   rw[AI.res_ren];have hl:An c.post i=c.post[i]:=by simp[An,Bu,b]
   rw[hl];exact AI.res_congr _ (λq hq=>D q (Lf (Bt.1 aC _ (EL b)) q hq)) (.inr (.inr (D i b)))
 rw[AA.val_ren];refine(AA.val_congr _ λq hq=>?_).symm
 have b:=Lf aD q hq;have d:=CF (show q<(J a) by omega)
 show(if Ee (CX a q) a then p (a.idxOf (CX a q))else ρ (CX a q))=p q
 rw[Iy d,Gk.2 (EL _),AZ rfl,Sr H d]
theorem W0(M:BV φ ψ w0 w (Am F ρ S)){o}{e}{g}(hg:∀x∈o.op.operands,∀v,e x=Z v->g x=v.val ρ){c}(hc:c.ok P){C}{id}{r}(h:eK P e S id c C o.op=Z r)(ho:(Yf e S id c C o.op).1=(Yf e S id c C o.op).2)(aL:∀j∈r.made,S j=.none)(hi:FV S ρ r.made):
  FG P o g w (Hk φ ψ w0 F ρ S r):=by
 cases G:o.op<;>rw[G]at h hg ho<;>simp only[eK]at h<;>first|cases h|skip
 rename_i cl
 obtain⟨k,aI,D⟩:=cl;cases k<;>(try simp only[]at h)<;>first|cases h|skip
 rename_i fo
 split at h
 case h_2=>cases h
 rename_i f fst aH xs hf H
 split at h
 case isFalse=>cases h
 rename_i d
 cases h
 simp only[Yf,hf,H,List.cons.injEq,Prod.mk.injEq,and_true]at ho;generalize l:C++List.range' id (J c.post-J c.pre)=E at*;simp only[Aj,decide_eq_true_eq,CW,beq_iff_eq]at d;obtain⟨⟨⟨⟨⟨⟨rfl,T⟩,N⟩,aJ⟩,aC⟩,u⟩,L⟩:=d;have hn:=et aC;obtain⟨n,a⟩:=ho;obtain⟨a,s⟩:=List.append_inj a (by simp[N])
 have aG:J E=J c.post:=by rw[<-l,Az,List.length_range'];omega
 have q:∀i,i<J c.pre->E[i]? =C[i]? :=λi m=>by rw[<-l,Fb O]
 have aB:∀i,J c.pre<=i->∀j,E[i]? =Z j->j∈List.range' id (J c.post-J c.pre):=λi m j X=>by
  rw[<-l,Ip O]at X;exact FF X
 have b:∀i j,i<J c.pre->E[i]? =Z j->S j=((An c.pre) i).ren (CX E):=λi j m X=>by
  have Q:(C.map S)[i]? =(c.pre.map (AI.ren (CX E)))[i]? :=by rw[a]
  rw[List.getElem?_map,List.getElem?_map, <-q i m,X]at Q;simp only[An,Bu];rw[CF m]at Q ⊢;simpa using Q
 have aD:AN.ok P ⟨c.f,c.args,c.pre,c.post.map AI.unK,c.res⟩:=AN.okPost hc _ λρ i=>by rw[H7 rfl,AI.res_unK]
 have t:(c.post.map AI.unK).length=J c.post:=List.length_map AI.unK;refine yB M G hg aD hf H (by simp only;rw[t]) l T N (by simp only;omega) hn ?_ (by simp only;rw[t];exact L) n b _ ?_ hi
 ·simp only
  rw[t,List.all_map];refine Bt.2 λx R=>?_
  simp only[Function.comp,AI.ids_unK];exact Bt.1 u x R
 funext j;rw[jq hn (λi j p x Q h2 z hk=>?_) j]
 ·simp only[List.map_map]
  congr 3;funext x;exact AI.unK_ren _ x
 have aE:i<J c.pre:=(EA.1 h2).1;rw[b i j aE Q];rw[List.getElem?_map]at z;cases R:c.post[i]? with
 |none=>rw[R]at z;simp at z
 | some y =>
  rw[R]at z;simp at z;subst z
  have aF:Ru p y=true:=by
   cases p<;>cases y<;>first|exact hk|(simp[Ru,AI.ren]at hk;done)
  have:=gX s h2 R aF;rw[show An c.pre i=p by simp[An,Bu,h2],this,AI.unK_ren]
end
def Db:List (Nat×AA)->Nat->Option AA
 |[],_=>I
 |(k,x)::r,t=>if CW t k then Z x else Db r t
abbrev AH(n:Nat):List Nat:=DA n
theorem EB{p:Prop}[Decidable p](h:decide p=U):¬p:=of_decide_eq_false h
theorem EC{p:Prop}[Decidable p](h:decide p=V):p:=of_decide_eq_true h
def Ad:List (Nat×Nat×Nat)->List (Nat×Nat)
 |[]=>[]
 |(a,b,k)::r=>((DA (b+1-a)).map λi=>(a+i,k))++Ad r
structure Lv where
 calls:List (Nat×AN×List Nat)
 facts:List (Bool×Bool)
 uses:List (Nat×Nat)
def IY:List (Nat×AN×List Nat)->Nat->Option (AN×List Nat)
 |[],_=>I
 |(k,x)::r,i=>if CW i k then Z x else IY r i
def pO:List (Nat×Nat)->Nat->Option Nat
 |[],_=>I
 |(k,x)::r,i=>if CW i k then Z x else pO r i
def XU(H:Lv)(i:Nat):Option (Bool×Bool):=(pO H.uses i).bind λk=>H.facts[k]?
def JA:List (Bool×Bool)->Prop
 |[]=>True
 |p::r=>p.1=p.2/\JA r
theorem tH:∀{l:List (Bool×Bool)} {k:Nat} {p:Bool×Bool},JA l->l[k]? =Z p->p.1=p.2
 |[],_,_,_,h=>by simp at h
 |q::r,0,p,a,h=>by simp at h;subst h;exact a.1
 |q::r,k+1,p,a,h=>tH a.2 (by simpa using h)
theorem pB{H}(b:JA H.facts){i}{p}(h:XU H i=Z p):p.1=p.2:=by
 obtain⟨k,_,a⟩:=Option.bind_eq_some_iff.1 h;exact tH b a
def FW(a:Op):List Nat:=a.operands.toList.filterMap λ|.tmp t=>Z t|_=>I
def IX(a:Nat->Option AA)(l:List Nat):Nat->Option AA:=λt=>if Ee t l then a t else I
def Fo(S:Nat->AI)(l:List Nat):Nat->AI:=λj=>if Ee j l then S j else .none
def Ka(a:Nat->Option AA)(l:List Nat):List Nat:=(l.filterMap a).flatMap AA.ids
def Ir(c:Nat->Option AA)(a:Op):List Nat:=match a with
 |.move _=>[]
 |.store _ x _=>match Cy (IX c (FW a)) x with
  |some (.P b _)=>[b]
  |_=>Ka c (FW a)
 |_=>Ka c (FW a)
def Iv(b:Nat->Option AA)(a:Op):List Nat:=match a with
 |.store _ x _=>match Cy (IX b (FW a)) x with
  |some (.P _ _)=>Ka b (FW a)
  |_=>[]
 |_=>[]
def kZ(d:Option (Bool×Bool))(e:Operand->Option AA):Op->Option Ht
 |.pick c a b=>
  match d,e c with
  |some d,Z (.v (.bool _))=>(e (if d.2 then a else b)).map λr=>⟨[],[],r,[]⟩
  |_,_=>I
 |_=>I
def Zu(d:Option (Bool×Bool))(e:Operand->Option AA):Op->List (List AA×List AI)×List (List AA×List AI)
 |.pick c _ _=>
  match d,e c with
  |some d,Z x=>([([x],[])],[([.v (.bool d.1)],[])])
  |_,_=>([],[])
 |_=>([],[])
def RO(P:Program)(e:TypeId->Nat)(H:Lv)(b:Nat->Option AA)(S:Nat->AI)(id i:Nat)(a:Op):Option Ht:=
 match IY H.calls i with
 |some (c,d)=>eK P (Cy (IX b (FW a))) (Fo S (Ir b a++d)) id c d a
 |none=>
  match kZ (XU H (i+1000)) (Cy (IX b (FW a))) a with
  |some r=>Z r
  |none=>PO P e (Cy (IX b (FW a))) (Fo S (Ir b a++Iv b a)) id a
def SL(H:Lv)(b:Nat->Option AA)(S:Nat->AI)(id i:Nat)(a:Op):List (List AA×List AI)×List (List AA×List AI):=
 match IY H.calls i with
 |some (c,d)=>Yf (Cy (IX b (FW a))) (Fo S (Ir b a++d)) id c d a
 |none=>Zu (XU H (i+1000)) (Cy (IX b (FW a))) a
def Rz(c:List Oper)(H:Lv)(e:Nat->Option AA)(i:Nat)(o:Oper):Option (Bool×List AA×List AA):=
 match o.guard with
 |none=>Z (V,[],[])
 | some (j, a) =>
  match(c[j]?).bind (·.dst)with
  |none=>I
  |some t=>
   match e t with
   |some (.v (.bool b))=>(XU H i).map λd=>(d.2==a,[.v (.bool b)],[.v (.bool d.1)])
   |some (.v (.tuple _))=>Z (U,[],[])
   |_=>I
def Ia:AI->Nat
 |.C _=>1
 |.G _=>2
 |.L _ _=>2
 |.Q _=>3
 |_=>0
theorem T4(x):eU x=CW (Ia x) 1:=by cases x<;>rfl
theorem sg(x):(Mv x).isSome=CW (Ia x) 2:=by cases x<;>rfl
theorem c7(x):(Qt x).isSome=CW (Ia x) 3:=by cases x<;>rfl
section
variable{S S':Nat->AI}
mutual
theorem OM:∀{x:AA},(∀j∈x.ids,Ia (S j)=Ia (S' j))->IE S x=IE S' x
 |.v _,_=>rfl
 |.P b _,h=>by simp only[IE,T4];rw[h b (by simp[AA.ids])]
 |.ea b _ _ _,h=>by simp only[IE,sg];rw[h b (by simp[AA.ids])]
 |.N b,h=>by simp only[IE,sg];rw[h b (by simp[AA.ids])]
 |.fn _ l,h=>by simp only[IE];exact YY fun j hj=>h j (by simpa[AA.ids]using hj)
 |.bm _ l,h=>by simp only[IE];exact OU fun j hj=>h j (by simpa[AA.ids]using hj)
 |.F b,h=>by simp only[IE,c7];rw[h b (by simp[AA.ids])]
 |.agg _,_=>rfl
 |.T _,_=>rfl
theorem YY:∀{l:List AA},(∀j∈AA.idsL l,Ia (S j)=Ia (S' j))->No S l=No S' l
 |[],_=>rfl
 |x::r,h=>by
  simp only[No];rw[OM (x:=x) fun j hj=>h j (by simp[AA.idsL,hj]),YY (l:=r) fun j hj=>h j (by simp[AA.idsL,hj])]
theorem OU:∀{l:List AA},(∀j∈AA.idsL l,Ia (S j)=Ia (S' j))->IF S l=IF S' l
 |[],_=>rfl
 |.agg c::r,h=>by
  simp only[IF];rw[YY (l:=c) fun j hj=>h j (by simp[AA.idsL,AA.ids,hj]),OU (l:=r) fun j hj=>h j (by simp[AA.idsL,hj])]
 |.v x::r,h=>by
  simp only[IF];rw[OM (x:=.v x) fun j hj=>h j (by simp[AA.idsL,hj]),OU (l:=r) fun j hj=>h j (by simp[AA.idsL,hj])]
 |.P x y::r,h=>by
  simp only[IF];rw[OM (x:=.P x y) fun j hj=>h j (by simp[AA.idsL,hj]),OU (l:=r) fun j hj=>h j (by simp[AA.idsL,hj])]
 |.ea x y z u::r,h=>by
  simp only[IF];rw[OM (x:=.ea x y z u) fun j hj=>h j (by simp[AA.idsL,hj]),OU (l:=r) fun j hj=>h j (by simp[AA.idsL,hj])]
 |.N x::r,h=>by
  simp only[IF];rw[OM (x:=.N x) fun j hj=>h j (by simp[AA.idsL,hj]),OU (l:=r) fun j hj=>h j (by simp[AA.idsL,hj])]
 |.fn x y::r,h=>by
  simp only[IF];rw[OM (x:=.fn x y) fun j hj=>h j (by simp[AA.idsL,hj]),OU (l:=r) fun j hj=>h j (by simp[AA.idsL,hj])]
 |.bm x y::r,h=>by
  simp only[IF];rw[OM (x:=.bm x y) fun j hj=>h j (by simp[AA.idsL,hj]),OU (l:=r) fun j hj=>h j (by simp[AA.idsL,hj])]
 |.F x::r,h=>by
  simp only[IF];rw[OM (x:=.F x) fun j hj=>h j (by simp[AA.idsL,hj]),OU (l:=r) fun j hj=>h j (by simp[AA.idsL,hj])]
 |.T x::r,h=>by
  simp only[IF];rw[OM (x:=.T x) fun j hj=>h j (by simp[AA.idsL,hj]),OU (l:=r) fun j hj=>h j (by simp[AA.idsL,hj])]
end
theorem V5{x}(h:∀j∈x.ids,Ia (S j)=Ia (S' j)):MT S x=MT S' x:=by
 cases x<;>simp only[MT]
 case agg l=>exact YY λj a=>h j (by simpa[AA.ids]using a)
 all_goals exact OM h
theorem z8{a}{l}{t}{y}(d:t∈l)(b:a t=Z y){j}(c:j∈y.ids):j∈Ka a l:=List.mem_flatMap.2 ⟨y,List.mem_filterMap.2 ⟨t,d,b⟩,c⟩
theorem N0{P}{o:TypeId->Nat}{a}{d}{id}(p:∀j∈Ir a d,S' j=S j)(q:∀j∈Iv a d,Ia (S' j)=Ia (S j)):PO P o (Cy (IX a (FW d))) (Fo S' (Ir a d++Iv a d)) id d=PO P o (Cy (IX a (FW d))) (Fo S (Ir a d++Iv a d)) id d:=by
 have i:Iv a d=[]->PO P o (Cy (IX a (FW d))) (Fo S' (Ir a d++Iv a d)) id d=PO P o (Cy (IX a (FW d))) (Fo S (Ir a d++Iv a d)) id d:=λe=>by
  rw[e,II]
  have:Fo S' (Ir a d)=Fo S (Ir a d):=by
   funext j;unfold Fo;split
   ·rename_i m;exact p j (Gk.1 m)
   rfl
  rw[this]
 cases d with
 | store t x y =>
  cases l:Cy (IX a (FW (.store t x y))) x with
  |none=>exact i (by simp only[Iv,l])
  | some v =>
   cases v with
   | P b r =>
    cases k:Cy (IX a (FW (.store t x y))) y with
    |none=>simp only[PO,Xi,l,k,Wi]
    | some u =>
     have w:Ir a (.store t x y)=[b]:=by simp only[Ir,l]
     have E:Iv a (.store t x y)=Ka a (FW (.store t x y)):=by simp only[Iv,l]
     rw[w]at p ⊢;rw[E]at q ⊢
     have D:Fo S' ([b]++Ka a (FW (.store t x y))) b=Fo S ([b]++Ka a (FW (.store t x y))) b:=by
      unfold Fo;split
      ·exact p b At
      rfl
     have z:∀j∈u.ids,j∈Ka a (FW (.store t x y)):=λj n=>by
      cases y with
      |tmp s=>
       simp only[Cy,IX]at k;split at k
       ·rename_i m;exact z8 (Gk.1 m) k n
       cases k
      |const c=>cases k;simp[AA.ids]at n
      |global g=>cases k<;>simp[AA.ids]at n
      |func f=>cases k<;>simp[AA.ids,AA.idsL]at n
     have C:MT (Fo S' ([b]++Ka a (FW (.store t x y)))) u=MT (Fo S ([b]++Ka a (FW (.store t x y)))) u:=V5 λj n=>by
      unfold Fo;split
      ·rename_i m
       rcases DQ.1 (Gk.1 m)with h|h
       ·rw[p j h]
       exact q j h
      rfl
     simp only[PO,Wi,Xi,l,k,UI,D,C]
   |_=>exact i (by simp only[Iv,l])
 |_=>exact i rfl
end
section
variable{P:Program}{ι:Type}{φ ψ:Nat->Prop}{w0 w w':World}{F:ι->Bv}{ρ:Nat->Value}{S:Nat->AI}
theorem kV{S S'}{j}(h:S j=S' j):∀l,Bq S l j=Bq S' l j
 |[]=>h
 |(k,x)::r=>by simp only[Bq];split;rfl;exact kV h r
theorem FG.frame{o}{g}{t}(l)(M:BV φ ψ w0 w (Am F ρ S))(y:FV S ρ t.made)(q:∀j∈t.made,S j=.none)(n:∀j∈t.new.map (·.1),j∈l\/S j=.none)
  (h:∀{C:Type} (f:C->Bv),BV φ ψ w0 w (Am f ρ (Fo S l))->FV (Fo S l) ρ t.made->(∀j∈t.made,Fo S l j=.none)->FG P o g w (Hk φ ψ w0 f ρ (Fo S l) t)):FG P o g w (Hk φ ψ w0 F ρ S t):=by
 let f:ι ⊕ Nat->Bv:=λk=>match k with|.inl i=>F i|.inr j=>if Ee j l then Bv.none else(S j).res ρ j
 have D:BV φ ψ w0 w (Am f ρ (Fo S l)):=by
  refine M.map (λk:(ι ⊕ Nat) ⊕ Nat=>(match k with|.inl (.inl i)=>Z (.inl i)|.inl (.inr j)=>if Ee j l then I else Z (.inr j)|.inr j=>if Ee j l then Z (.inr j)else I:Option (ι ⊕ Nat))) ?_ ?_
  ·intro k u x b a
   match k,u with
   |.inl (.inl i),.inl (.inl s)=>simp at b a;subst b;simpa using a.symm
   |.inl (.inl i),.inl (.inr m)=>simp at b;subst b;simp at a
   |.inl (.inl i),.inr m=>simp at b;subst b;simp at a
   |.inl (.inr j),.inl (.inl s)=>simp at a;subst a;simp at b
   |.inr j,.inl (.inl s)=>simp at a;subst a;simp at b
   |.inl (.inr j),.inl (.inr m)=>simp at b a;rw[<-b.2]at a;rw[Sum.inr.inj a.2]
   |.inl (.inr j),.inr m=>
    simp at b a;rw[<-b.2]at a;have:=Sum.inr.inj a.2;subst this;rw[b.1]at a;cases a.1
   |.inr j,.inl (.inr m)=>
    simp at b a;rw[<-b.2]at a;have:=Sum.inr.inj a.2;subst this;rw[b.1]at a;cases a.1
   |.inr j,.inr m=>simp at b a;rw[<-b.2]at a;rw[Sum.inr.inj a.2]
  intro k
  match k with
  |.inl (.inl i)=>exact .inl ⟨.inl i,rfl,rfl⟩
  |.inl (.inr j)=>
   cases c:Ee j l
   ·exact .inl ⟨.inr j,by simp[c],by simp[Am,f,c]⟩
   exact .inr (by simp[Am,f,c])
  |.inr j=>
   cases c:Ee j l
   ·exact .inr (by simp[Am,Fo,c,AI.res])
   exact .inl ⟨.inr j,by simp[c],by simp[Am,Fo,c]⟩
 have r:FV (Fo S l) ρ t.made:=λe p j=>by
  unfold Fo;split
  ·exact y e p j
  rfl
 refine(h f D r λj G=>by unfold Fo;split;exact q j G;rfl).mono ?_
 rintro v w' ⟨e,p,E,rfl⟩;refine⟨e,p,?_,rfl⟩;refine E.map (λk:ι ⊕ Nat=>(match k with|.inl i=>Z (.inl (.inl i))|.inr j=>if Ee j l||Ee j (t.new.map (·.1))then Z (.inr j)else Z (.inl (.inr j)):Option ((ι ⊕ Nat) ⊕ Nat))) ?_ ?_
 ·intro k u x b a
  match k,u with
  |.inl i,.inl s=>simp at b a;rw[<-b]at a;simpa using a.symm
  |.inl i,.inr j=>simp only at b a;cases b;split at a<;>simp at a
  |.inr j,.inl i=>simp only at b a;cases a;split at b<;>simp at b
  |.inr j,.inr m=>
   simp only at b a;split at b<;>split at a<;>simp at b a<;>subst b<;>simp at a<;>rw[a]
 intro k
 match k with
 |.inl i=>exact .inl ⟨_,rfl,rfl⟩
 | .inr j =>
  cases d:(Ee j l||Ee j (t.new.map (·.1)))
  ·refine .inl ⟨.inl (.inr j),by simp only[d];rfl,?_⟩
   simp only[Bool.or_eq_false_iff]at d;simp only[Am,f,d.1];rw[br λz=>by rw[Gk.2 z]at d;cases d.2]
   exact y e p j
  refine .inl ⟨.inr j,by simp only[d,if_true],?_⟩
  simp only[Am];cases c:Ee j l
  ·rw[c]at d
   simp only[Bool.false_or]at d;rcases n j (Gk.1 d)with b|b
   ·rw[Gk.2 b]at c;cases c
   rw[kV (S:=Fo S l) (S':=S) (by unfold Fo;rw[c,b];rfl)]
  rw[kV (S:=Fo S l) (S':=S) (by unfold Fo;rw[c];rfl)]
theorem jY{b}{l}{a:Act}{x}{v}(e:∀t y,t∈l->b t=Z y->a.tmps[t]? =Z (y.val ρ))(h:Cy (IX b l) x=Z v):a.eval x=v.val ρ:=by
 cases x with
 | tmp t =>
  simp only[Cy,IX]at h;split at h
  ·rename_i d
   have:=e t v (Gk.1 d) h;simp[Act.eval,Array.getD_eq_getD_getElem?,this]
  cases h
 |const c=>cases h;rfl
 |global g=>cases h;rfl
 |func f=>cases h;rfl
theorem F9(M:BV φ ψ w0 w (Am F ρ S)){o}{e}{g}(n:∀x,∀v,e x=Z v->g x=v.val ρ){d}{r}(h:kZ d e o.op=Z r)(u:∀p,d=Z p->p.1=p.2)(m:(Zu d e o.op).1=(Zu d e o.op).2):FG P o g w (Hk φ ψ w0 F ρ S r):=by
 cases f:o.op<;>rw[f]at h m<;>simp only[kZ]at h<;>first|cases h|skip
 rename_i c a b
 split at h
 case h_2=>cases h
 rename_i l x q
 obtain⟨v,t,y⟩:=Ds.1 h;subst y;simp only[Zu,q,List.cons.injEq,Prod.mk.injEq,and_true,AA.v.injEq,Value.bool.injEq]at m;have s:=n c _ q;have j:=n _ _ t;have i:x=l.2:=m.trans (u l rfl);refine .inl ⟨v.val ρ,w,?_,ρ,FK.refl _ _,M,rfl⟩;simp only[execOp,f,s,AA.val,i];cases k:l.2<;>rw[k]at j<;>simp[asBool]at j ⊢ <;>exact j
def yo(l:List Nat)(a:List Nat)(t:Ht):Bool:=t.new.all λp=>Ee p.1 l||Ee p.1 a
theorem ni(M:BV φ ψ w0 w (Am F ρ S)){dk:TypeId->Nat}{H:Lv}(hH:∀i c τ,IY H.calls i=Z (c,τ)->c.ok P)(hF:JA H.facts){tm:Nat->Option AA}{a:Act}{o:Oper}(ht:∀t y,t∈FW o.op->tm t=Z y->a.tmps[t]? =Z (y.val ρ)){id i:Nat}{r:Ht}(h:RO P dk H tm S id i o.op=Z r)(ho:Cl r.obs)(he:(SL H tm S id i o.op).1=(SL H tm S id i o.op).2)(hmk:∀j∈r.made,S j=.none)(hi:FV S ρ r.made)
  (hnew:∀j∈r.new.map (·.1),j∈Ir tm o.op++(match IY H.calls i with|some (_,τ)=>τ|none=>[])\/j∈r.made):
  FG P o a.eval w (Hk φ ψ w0 F ρ S r):=by
 unfold RO at h;unfold SL at he;split at h
 ·rename_i c τ hcl
  rw[hcl]at hnew he;refine FG.frame (Ir tm o.op++τ) M hi hmk (fun j hj=>(hnew j hj).imp (fun h=>h) (hmk j)) fun F' M' hi' hmk'=>?_
  exact W0 M' (e:=Cy (IX tm (FW o.op))) (fun x _ v hv=>jY ht hv) (hH i c τ hcl) h he hmk' hi'
 rename_i hcl
 rw[hcl]at hnew he;refine FG.frame (Ir tm o.op++Iv tm o.op) M hi hmk (fun j hj=>(hnew j hj).imp (fun h=>List.mem_append_left _ (by simpa using h)) (hmk j)) fun F' M' hi' hmk'=>?_
 split at h
 ·rename_i q hq
  cases h
  exact F9 M' (e:=Cy (IX tm (FW o.op))) (fun x v hv=>jY ht hv) hq (fun p hp=>pB hF hp) he
 exact vE M' (e:=Cy (IX tm (FW o.op))) (fun x _ v hv=>jY ht hv) h ho hmk' hi'
theorem ZL{c}{H}(E:JA H.facts){m}{i}{o}{a:Act}{b}{l r}(h:Rz c H m i o=Z (b,l,r))(p:l=r)
  (z:∀t y,(∃j n,o.guard=Z (j,n)/\(c[j]?).bind (·.dst)=Z t)->m t=Z y->a.tmps[t]? =Z (y.val ρ)):Region.wanted o (yielded c.toArray a.tmps)=b:=by
 unfold Rz at h;unfold Region.wanted;cases k:o.guard with
 |none=>rw[k]at h;cases h;rfl
 | some q =>
  obtain⟨j,e⟩:=q;rw[k]at h;simp only at h ⊢;split at h
  case h_1=>cases h
  rename_i t s
  have f:∀y,m t=Z y->a.tmps[t]? =Z (y.val ρ):=λy f=>z t y ⟨j,e,k,s⟩ f
  unfold yielded;rw[show((c.toArray[j]?).bind (·.dst)).bind (a.tmps[·]?)=a.tmps[t]? by simp only[List.getElem?_toArray,s];rfl]
  split at h
  ·rename_i x u g
   rw[f _ g];obtain⟨d,C,D⟩:=Ds.1 h;cases D
   simp only[List.cons.injEq,AA.v.injEq,Value.bool.injEq,and_true]at p;simp only[AA.val];rw[p,pB E C];rfl
  ·rename_i x u g
   rw[f _ g];cases h
   rfl
  cases h
end
structure Gc where
 dst:Option Nat
 t:Ht
 want:Bool
 rt:List Nat
 ri:List Nat
 eqs:List (List AA×List AI)×List (List AA×List AI)
 eqw:List AA×List AA
 rk:List Nat
def iW:Ht:=⟨[],[],.v undef,[]⟩
def RT(a:Option Nat)(x:AA)(b:List (Nat×AA)):List (Nat×AA):=
 match a with
 |some d=>(d,x)::b
 |none=>b
def OZ(a:Option Nat)(x:AA)(b:Nat->Option AA):Nat->Option AA:=λt=>if a=Z t then Z x else b t
def Vb(N:Nat)(a:Option Nat):Bool:=match a with|some d=>Y (d<N)|none=>V
def XB(n:Nat)(t:Ht):Bool:=
 t.new.all (λp=>Y (p.1<n+8)&&Jq (n+8) p.2.ids)&&t.made.all (λj=>Y (n<=j)&&Y (j<n+8))&&Jq (n+8) t.res.ids
def Yx(a:List Oper)(o:Oper):List Nat:=
 match o.guard with
 |some (j,_)=>((a[j]?).bind (·.dst)).toList
 |none=>[]
def Zl(H:Lv)(i:Nat):List Nat:=match IY H.calls i with
 |some (_,a)=>a
 |none=>[]
def NI(P:Program)(c:TypeId->Nat)(N:Nat)(a:List Oper)(H:Lv)(i:Nat)(o:Oper)(b:Nat->Option AA)(S:Nat->AI)(n:Nat):Option (Gc×List Prop):=
 if Vb N o.dst then
  match Rz a H b i o with
  |none=>I
  |some (U,l,r)=>Z (⟨o.dst,iW,U,Yx a o,[],([],[]),(l,r),[]⟩,[])
  | some (V, l, r) =>
   match RO P c H b S n i o.op with
   |none=>I
   |some t=>
    if XB n t&&yo (Ir b o.op++Zl H i) t.made t then Z (⟨o.dst,t,V,FW o.op++Yx a o,Ir b o.op++Zl H i,SL H b S n i o.op,(l,r),Iv b o.op⟩,t.obs)else I
 else I
structure Us where
 acts:List Gc
 obs:List Prop
 tm:List (Nat×AA)
 S:Nat->AI
def Hx(P:Program)(d:TypeId->Nat)(N:Nat)(b:List Oper)(H:Lv):List Oper->Nat->List (Nat×AA)->(Nat->AI)->Nat->Option Us
 |[],_,c,S,_=>Z ⟨[],[],c,S⟩
 | o :: r, i, c, S, n =>
  match NI P d N b H i o (Db c) S n with
  |none=>I
  |some (a,e)=>
   match Hx P d N b H r (i+1) (RT a.dst a.t.res c) (Bq S a.t.new) (n+8)with
   |none=>I
   |some s=>Z ⟨a::s.acts,e++s.obs,s.tm,s.S⟩
section
variable{P:Program}{ι:Type}{φ ψ:Nat->Prop}{w0 w w':World}{F:ι->Bv}{ρ:Nat->Value}{S:Nat->AI}{N m n:Nat}{ρ0:Nat->Value}
structure Jx(φ ψ:Nat->Prop)(w0:World)(F:ι->Bv)(N m:Nat)(ρ0:Nat->Value)(n:Nat)(ρ:Nat->Value)(tm:Nat->Option AA)(S:Nat->AI)(a:Act)(w:World):Prop where
 size:a.tmps.size=N
 defs:a.defers=[]
 tmv:∀t x,tm t=Z x->a.tmps[t]? =Z (x.val ρ)
 tmi:∀t x,tm t=Z x->∀id∈x.ids,id<n
 bd:∀j,(∀id∈(S j).ids,id<n)/\(n<=j->S j=.none)
 mem:BV φ ψ w0 w (Am F ρ S)
 le:m<=n
 old:∀i,i<m->ρ i=ρ0 i
theorem Jx.inv{i}{a}(f:Jx φ ψ w0 F N m ρ0 n ρ i S a w){mk}(h:∀j∈mk,n<=j):FV S ρ mk:=λd g j=>by
 have b:∀id,id<n->d id=ρ id:=λid c=>g id λk=>by have:=h id k;omega
 refine AI.res_congr _ (λid c=>b id ((f.bd j).1 id c)) ?_
 rcases Du j n with e|e
 ·exact .inr (.inr (b j e))
 exact .inl ((f.bd j).2 e)
theorem qw{a}{x}{b}:Db (RT a x b)=OZ a x (Db b):=by
 funext t;cases a with
 |none=>simp[RT,OZ]
 |some d=>
  simp only[RT,Db,OZ,CW];by_cases h:t=d
  ·subst h;simp
  simp[h,Ne.symm h]
theorem Zt{t}(h:XB n t=V):(∀p∈t.new,p.1<n+8/\∀id∈p.2.ids,id<n+8)/\(∀j∈t.made,n<=j/\j<n+8)/\∀id∈t.res.ids,id<n+8:=by
 simp only[XB,Aj]at h;refine⟨λp b=>?_,λj a=>?_,Lf h.2⟩
 ·have:=Bt.1 h.1.1 p b
  simp only[Aj,decide_eq_true_eq]at this;exact⟨this.1,Lf this.2⟩
 have:=Bt.1 h.1.2 j a;simpa using this
theorem vF{l}{m}(b:∀j,(∀id∈(S j).ids,id<m)/\(m<=j->S j=.none))(h:∀p∈l,p.1<m/\∀id∈p.2.ids,id<m):∀j,(∀id∈(Bq S l j).ids,id<m)/\(m<=j->Bq S l j=.none):=by
 induction l with
 |nil=>exact b
 | cons p r c =>
  obtain⟨k,x⟩:=p;intro j;have a:=h (k,x) EI;simp only at a;simp only[Bq];by_cases e:j=k
  ·rw[AZ e]
   exact⟨a.2,λd=>by omega⟩
  rw[AO e];exact c (λp a=>h p (Ep _ a)) j
theorem tY(a:Act)(b)(v):(a.put b v).tmps.size=a.tmps.size:=by cases b<;>simp[Act.put]
theorem sF(a:Act)(b)(v):(a.put b v).defers=a.defers:=by cases b<;>simp[Act.put]
theorem oS{a:Act}{b}{v}{t}(h:Vb a.tmps.size b=V):(a.put b v).tmps[t]? =if b=Z t then Z v else a.tmps[t]? :=by
 cases b with
 |none=>simp[Act.put]
 |some d=>
  have c:d<a.tmps.size:=by simpa[Vb]using h
  simp only[Act.put,Option.some.injEq];rw[Array.getElem?_setIfInBounds];by_cases e:d=t
  ·subst e;simp[c]
  simp[e]
theorem Jx.next{k}{a}(f:Jx φ ψ w0 F N m ρ0 n ρ k S a w){t}{g}(q:Vb N g=V)(y:XB n t=V){d}(o:FK t.made ρ d)(M:BV φ ψ w0 w' (Am F d (Bq S t.new))):
  Jx φ ψ w0 F N m ρ0 (n+8) d (OZ g t.res k) (Bq S t.new) (a.put g (t.res.val d)) w':=by
 obtain⟨p,r,l⟩:=Zt y;have h:∀id,id<n->d id=ρ id:=λid b=>o id λu=>by have:=(r id u).1;omega
 refine⟨(tY _ _ _).trans f.size,(sF _ _ _).trans f.defs,λs x c=>?_,λs x c=>?_,vF (λj=>⟨λid b=>by have:=(f.bd j).1 id b;omega,λz=>(f.bd j).2 O⟩) p,M,by have:=f.le;omega,λi v=>(h i (by have:=f.le;omega)).trans (f.old i v)⟩
 ·rw[oS (by rw[f.size];exact q)]
  simp only[OZ]at c;split
  ·rename_i e;rw[AZ e]at c;cases c;rfl
  rename_i e
  rw[AO e]at c;rw[f.tmv s x c,AA.val_congr x λid b=>h id (f.tmi s x c id b)]
 simp only[OZ]at c;split at c
 ·cases c;exact l
 intro id b;have:=f.tmi s x c id b;omega
theorem vS{T:TypeId->Nat}{H}(X:∀i c R,IY H.calls i=Z (c,R)->c.ok P)(z:JA H.facts){f}{i}{o}{G}{a}(g:Jx φ ψ w0 F N m ρ0 n ρ G S a w){e}{k}(h:NI P T N f H i o G S n=Z (e,k))(L:Cl k)(he:e.eqs.1=e.eqs.2)(s:e.eqw.1=e.eqw.2)
  {Q} {d} (D:∀b w',FK e.t.made ρ b->BV φ ψ w0 w' (Am F b (Bq S e.t.new))->wpList P f.toArray Q d (a.put o.dst (e.t.res.val b)) w'):wpList P f.toArray Q (o::d) a w:=by
 unfold NI at h;split at h
 case isFalse=>cases h
 rename_i hd
 split at h
 case h_1=>cases h
 ·rename_i l r x
  cases h
  refine sx (ZL (ρ:=ρ) z x s λt y _ q=>g.tmv t y q) ?_
  exact D ρ w (FK.refl _ _) (by simpa[iW,Bq]using g.mem)
 rename_i l r x
 split at h
 case h_1=>cases h
 rename_i t M
 split at h
 case isFalse=>cases h
 rename_i C
 cases h
 simp only[Aj]at C;obtain⟨h1,E,h3⟩:=Zt C.1;refine FG.wp (ZL (ρ:=ρ) z x s λt y _ q=>g.tmv t y q) ?_
 refine(ni g.mem X z (λt y _ q=>g.tmv t y q) M L he (λj u=>(g.bd j).2 (E j u).1) (g.inv λj u=>(E j u).1) (λj u=>?_)).mono ?_
 ·obtain⟨p,hp,rfl⟩:=List.mem_map.1 u
  have:=Bt.1 C.2 p hp;simp only[Gg]at this;exact this.imp Gk.1 Gk.1
 rintro v w' ⟨b,p1,p2,rfl⟩;exact D b w' p1 p2
theorem gh{f:TypeId->Nat}{H}{b}{i}{o}{g}{a}{c}(h:NI P f N b H i o g S n=Z (a,c)):a.dst=o.dst/\Vb N o.dst=V/\XB n a.t=true:=by
 unfold NI at h;split at h
 case isFalse=>cases h
 rename_i d
 split at h
 case h_1=>cases h
 ·cases h;exact⟨rfl,d,rfl⟩
 split at h
 case h_1=>cases h
 split at h
 case isFalse=>cases h
 rename_i e
 cases h
 simp only[Aj]at e;exact⟨rfl,d,e.1⟩
theorem oy{G:TypeId->Nat}{H}(x:∀i c D,IY H.calls i=Z (c,D)->c.ok P)(y:JA H.facts){e}{Q}:∀(l:List Oper) (i n:Nat) {f:List (Nat×AA)} {S:Nat->AI} {ρ:Nat->Value} {a:Act} {w:World} {r:Us},Jx φ ψ w0 F N m ρ0 n ρ (Db f) S a w->Hx P G N e H l i f S n=Z r->Cl r.obs->r.acts.map (·.eqs.1)=r.acts.map (·.eqs.2)->r.acts.map (·.eqw.1)=r.acts.map (·.eqw.2)->
  (∀b v w' X,Jx φ ψ w0 F N m ρ0 X b (Db r.tm) r.S v w'->Q .normal v w')->wpList P e.toArray Q l a w
 |[],i,n,f,S,ρ,a,w,r,j,h,_,_,_,p=>by cases h;exact p _ _ _ _ j
 | o :: l, i, n, f, S, ρ, a, w, r, j, h, k, q, d, p => by
  simp only[Hx]at h;split at h
  case h_1=>cases h
  rename_i g ob u
  split at h
  case h_1=>cases h
  rename_i s R
  cases h
  simp only[Cl.append]at k;simp only[Fa,List.cons.injEq]at q d;obtain⟨z,C,T⟩:=gh u;refine vS x y j u k.1 q.1 d.1 λb w' L M=>?_
  have E:Jx φ ψ w0 F N m ρ0 (n+8) b (Db (RT g.dst g.t.res f)) (Bq S g.t.new) (a.put o.dst (g.t.res.val b)) w':=by
   rw[qw,z];exact j.next C T L M
  exact oy x y l (i+1) (n+8) E R k.2 q.2 d.2 p
end
end Go.Proofs.YtfbeblgnjeokaaaGreat
