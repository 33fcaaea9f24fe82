/- Part 5: functions on the way, plain laws. Conditions: as said. -/
import Derived.Test.YtfbeblgnjeokaaaGreatK1
import Derived.Test.YtfbeblgnjeokaaaGreatK2
import Derived.Test.YtfbeblgnjeokaaaGreatK4
set_option maxRecDepth 100000
set_option maxHeartbeats 16000000
set_option linter.unusedVariables false
set_option linter.unusedSimpArgs false
open Bool renaming true → V, false → U
open Option renaming some → Z, none → I
open Decidable renaming decide → Y
open Bool renaming and_eq_false_iff → HW, and_eq_true → Aj, and_eq_true_iff → Gy, not_eq_false' → Cp, not_eq_true' → Cn, or_eq_true → Gg, true_and → IG
open Inhabited renaming default → K
open Int renaming toNat_natCast → Gb
open List renaming all_cons → IS, all_eq_true → Bt, append_assoc → Fj, append_nil → II, cons_append → IR, eq_nil_of_length_eq_zero → FM, getD_eq_getElem?_getD → Bu, getElem?_append_left → Fb, getElem?_append_right → Ip, getElem?_eq_getElem → CF, getElem?_eq_none → FO, getElem?_replicate → LH, getElem?_set → IT, getElem_mem → EL, length_append → Az, length_cons → BK, length_nil → Bc, length_replicate → FX, length_set → GP, map_cons → Fa, mem_append → DQ, mem_cons → Eb, mem_cons_of_mem → Ep, mem_cons_self → EI, mem_of_getElem? → FF, mem_singleton → Dw, not_mem_nil → It, replicate → Ac, take → Ae, take_of_length_le → Dq
open Nat renaming add_zero → Fx, le_refl → BR, lt_or_ge → Du, zero_add → GS, zero_le → Di
open True renaming intro → Ay

open List renaming length → J
open Go renaming wp_seq → B, wp_ret → AT, wp_skip → Aq, wp_block → BN
open Go.Proofs.Tryz
namespace Go.Proofs.YtfbeblgnjeokaaaGreat
open Go Go.RowKit
section
variable{P:Program}{ι κ:Type}{φ ψ:Nat->Prop}{w0 w:World}{F:ι->Bv}{ρ ρ0:Nat->Value}{N m n:Nat}{S:List AI}{tm:List (Nat×AA)}{a:Act}
def TG(n:Nat):List Hl:=Ac n .no++[.Q]
theorem ly(n i):DN (TG n) i=if i=n then .Q else .no:=by
 unfold DN TG;rw[Bu];rcases Nat.lt_trichotomy i n with h|h|h
 ·rw[Fb (by simpa using h),AO O]
  simp[h]
 ·subst h;simp
 rw[FO CY,AO O];rfl
theorem AN.datPost{f}{l}{C S}{d}{q}(L:AN.ok P ⟨f,l,C,S++[.Q d],q⟩)(e)(H:q=e.tr (TG S.length):=by kernel_rfl)(t:(Y (J C<=S.length)&&(e.trOk (TG S.length)&&S.all λx=>x.ids.isEmpty))=true:=by kernel_rfl):AN.ok P ⟨f,l,C,S++[.G d],e⟩:=by
 simp only[Aj,decide_eq_true_eq]at t;obtain⟨Q,t⟩:=t;subst H;intro ι φ ψ w0 w F ρ M;refine(L ι φ ψ w0 w F ρ M).mono ?_;rintro x w' ⟨c,R,rfl,E⟩
 let h:Nat->Value:=λi=>if(DN (TG S.length) i).isT then Fe (c i)else c i
 have g:∀i,h i=if(DN (TG S.length) i).isT then Fe (c i)else c i:=λ_=>rfl
 have s:∀i,i≠S.length->h i=c i:=λi p=>by rw[g,ly,AO p];rfl
 have D:h S.length=Fe (c S.length):=by rw[g,ly,AZ rfl];rfl
 refine⟨h,λi p=>by rw[s i (by simp only at p;omega)];exact R i p,by rw[AA.val_tr g e t.1],?_⟩
 refine E.release λk=>?_
 cases k with
 |inl i=>exact .inl rfl
 | inr j =>
  simp only[Am];rcases Nat.lt_trichotomy j S.length with o|o|o
  ·have z:An (S++[.G d]) j=An S j:=by simp[An,Bu,Fb o]
   have u:An (S++[.Q d]) j=An S j:=by simp[An,Bu,Fb o]
   rw[z,u];left
   have T:(An S j).ids=[]:=by
    have G:=Bt.1 t.2 _ (EL o);rw[Pn o];simpa using G
   exact AI.res_congr _ (λi p=>by rw[T]at p;cases p) (.inr (.inr (s j O)))
  ·subst o
   have z:An (S++[.G d]) S.length=.G d:=by simp[An,Bu]
   have u:An (S++[.Q d]) S.length=.Q d:=by simp[An,Bu]
   rw[z,u];refine .inr ⟨λb v=>v,λX hf r=>⟨EK.nice _ _,?_⟩⟩
   have y:=E.holds (.inr S.length);simp only[Am]at y;rw[u]at y;rw[D];exact FR.read y.2.1 λb v=>r b (by rw[show(AI.Q d).res c S.length=Bv.own (Fi (c S.length)) _ from rfl];exact v)
  rw[Fn CY,Fn CY];exact .inl rfl
theorem Ap.heal(G:Ap φ ψ w0 F N m ρ0 ρ S tm a w)(id k i)(l)(r)(S1)(L:An S id=.H k i l:=by kernel_rfl)(Q:An S k=.L 3 (.C r):=by kernel_rfl)(hS:S1=(S.set id (.Q (.L (l.set i r)))).set k .E:=by kernel_rfl):Ap φ ψ w0 F N m ρ0 ρ S1 tm a w:=by
 subst hS
 have T:id<S.length:=by
  rcases Du id S.length with h|h
  ·exact h
  rw[Fn h]at L;cases L
 have hk:k<S.length:=by
  rcases Du k S.length with h|h
  ·exact h
  rw[Fn h]at Q;cases Q
 have X:id≠k:=λe=>by rw[e,Q]at L;cases L
 have o:((S.set id (.Q (.L (l.set i r)))).set k .E).length=S.length:=At
 have s:∀j,An ((S.set id (.Q (.L (l.set i r)))).set k .E) j=if j=k then .E else if j=id then .Q (.L (l.set i r))else An S j:=λj=>by
  simp only[An,Bu,IT];by_cases f:k=j
  ·subst f;simp[hk]
  have y:¬j=k:=λh=>f h.symm
  by_cases d:id=j
  ·subst d;simp[T,f,y]
  have C:¬j=id:=λh=>d h.symm
  simp[f,y,d,C]
 refine⟨G.size,G.defs,G.tmv,λt x hx q H=>by rw[o];exact G.tmi t x hx q H,λj=>⟨λq H=>?_,λhj=>?_⟩,?_,by rw[o];exact G.le,G.old⟩
 ·rw[s]at H
  rw[o];split at H
  ·cases H
  split at H
  ·cases H
  exact(G.bd j).1 q H
 ·rw[o]at hj
  rw[s,AO O,AO O];exact Fn hj
 have M:=G.mem;have hh:=M.holds (.inr id);have hr:=M.holds (.inr k);have l1:Am F ρ (An S) (.inr id)=.own (λb=>Fi (ρ id) b/\(ρ k).ownBlock≠Z b) λw=>On w (Fi (ρ id)) i l (ρ k) (Fe (ρ id)):=by simp only[Am,L,AI.res]
 have l2:Am F ρ (An S) (.inr k)=.L 3 1 (ρ k) (J r) λxs w φ=>Ci w φ (.C r) xs:=by simp only[Am,Q,AI.res,D.sz,D.len]
 rw[l1]at hh;rw[l2]at hr;obtain⟨_,hO,aB⟩:=hh;obtain⟨_,xs,BA,Co⟩:=hr;have aD:xs=BW r:=qu (by have:=BA.1;simpa using this) Co
 subst aD;have hT:=hO.back BA
 have hu:∀g,(ρ k).ownBlock=Z g->Fi (ρ id) g:=by
  obtain⟨ys,S',_,_,q3,q4,q5,_,q2,_⟩:=hO;obtain⟨u',a',_,c⟩:=q2 i q5;rw[q4]at a';cases a';exact λg hg=>q3 g (c g hg)
 have m1:Am F ρ (An ((S.set id (.Q (.L (l.set i r)))).set k .E)) (.inr id)=.own (Fi (ρ id)) λw=>FR w (Fi (ρ id)) (.L (l.set i r)) (Fe (ρ id)):=by simp only[Am,s,AO X,if_true,AI.res]
 have m2:Am F ρ (An ((S.set id (.Q (.L (l.set i r)))).set k .E)) (.inr k)=Bv.none:=by simp only[Am,s,if_true,AI.res]
 have m3:∀q,q≠ .inr id->q≠ .inr k->Am F ρ (An ((S.set id (.Q (.L (l.set i r)))).set k .E)) q=Am F ρ (An S) q:=λq f d=>by
  cases q with
  |inl _=>rfl
  |inr j=>simp only[Am,s,AO (show ¬j=k from λe=>d (by rw[e])),AO (show ¬j=id from λe=>f (by rw[e]))]
 generalize Am F ρ (An ((S.set id (.Q (.L (l.set i r)))).set k .E))=L' at*
 have E:∀q b,(L' q).blk b->(q=.inr id/\((Am F ρ (An S) (.inr id)).blk b\/(Am F ρ (An S) (.inr k)).blk b))\/(q≠ .inr id/\q≠ .inr k/\(Am F ρ (An S) q).blk b):=λq b v=>by
  by_cases f:q=.inr id
  ·subst f
   rw[m1]at v;refine .inl ⟨rfl,?_⟩;rw[l1,l2];by_cases e:(ρ k).ownBlock=Z b
   ·exact .inr e
   exact .inl ⟨v,e⟩
  by_cases d:q=.inr k
  ·subst d;rw[m2]at v;exact v.elim
  rw[m3 q f d]at v;exact .inr ⟨f,d,v⟩
 refine M.re (λq b v=>?_) (λp q g R L Q=>?_) λq=>?_
 ·rcases E q b v with⟨_,h|h⟩|⟨_,_,h⟩
  ·exact⟨_,h⟩
  ·exact⟨_,h⟩
  exact⟨_,h⟩
 ·rcases E p g L with⟨f,z⟩|⟨f,y,z⟩
  ·rcases E q g Q with⟨d,u⟩|⟨d,C,u⟩
   ·exact R (f.trans d.symm)
   rcases z with z|z
   ·exact M.dis _ _ g (λe=>d e.symm) z u
   exact M.dis _ _ g (λe=>C e.symm) z u
  rcases E q g Q with⟨d,u⟩|⟨d,C,u⟩
  ·rcases u with u|u
   ·exact M.dis _ _ g f z u
   exact M.dis _ _ g y z u
  exact M.dis _ _ g R z u
 by_cases f:q=.inr id
 ·subst f
  right;intro aC;rw[m1];refine⟨λ_ _ h hs=>h.same hs,hT,λb v=>?_⟩
  by_cases e:(ρ k).ownBlock=Z b
  ·exact(World.ownsRow.lt BA b e).2
  exact aB b ⟨v,e⟩
 by_cases d:q=.inr k
 ·subst d
  right;intro aC;rw[m2];exact Bv.none_holds _ _
 exact .inl (m3 q f d)
theorem Ap.heal0(G:Ap φ ψ w0 F N m ρ0 ρ S tm a w)(id k i)(l)(c)(d:An S id=.H k i l:=by kernel_rfl)(b:An S k=.L 3 (.C (l.getD i [])):=by kernel_rfl)(f:c=(S.set id (.Q (.L l))).set k .E:=by kernel_rfl):Ap φ ψ w0 F N m ρ0 ρ c tm a w:=by
 refine G.heal id k i l (l.getD i []) c d b ?_
 have e:l.set i (l.getD i [])=l:=by
  apply List.ext_getElem?;intro j;rw[IT];by_cases h:i=j
  ·subst h
   rw[AZ rfl];by_cases b:i<J l
   ·simp[b]
   simp[b]
  rw[AO h]
 rw[e];exact f
theorem AI.res_ren'{b}{i j}{ρ}(x:AI)(h:b i=j):(x.ren b).res ρ j=x.res (λi=>ρ (b i)) i:=by
 subst h;exact AI.res_ren x
def EZ(i n j:Nat):Nat:=if CW j i then n else j
theorem jg{f:AA->AA}{t}{y}:∀{tm:List (Nat×AA)},Db (tm.map λp=>(p.1,f p.2)) t=Z y->∃x,Db tm t=Z x/\y=f x
 |[],h=>by cases h
 |(k,z)::r,h=>by
  simp only[Db,Fa]at h ⊢;split at h
  ·rename_i b;cases h;exact⟨z,by rw[AZ b],rfl⟩
  rename_i b
  obtain⟨x,c,d⟩:=jg h;exact⟨x,by rw[AO b];exact c,d⟩
theorem ae0{i n}{x:AA}:∀j∈(x.ren (EZ i n)).ids,(∃k∈x.ids,EZ i n k=j):=by
 have q:(∀x:AA,∀j∈(x.ren (EZ i n)).ids,∃k∈x.ids,EZ i n k=j)/\(∀l:List AA,∀j∈AA.idsL (AA.renL (EZ i n) l),∃k∈AA.idsL l,EZ i n k=j):=by
  have f:∀(l:List AA),(∀x∈l,∀j∈(x.ren (EZ i n)).ids,∃k∈x.ids,EZ i n k=j)->∀j∈AA.idsL (AA.renL (EZ i n) l),∃k∈AA.idsL l,EZ i n k=j:=by
   intro l;induction l with
   |nil=>intro _ j e;cases e
   | cons y r s =>
    intro h j e;simp only[AA.renL,AA.idsL,DQ]at e ⊢;rcases e with e|e
    ·obtain⟨k,o,p⟩:=h y EI j e
     exact⟨k,.inl o,p⟩
    obtain⟨k,o,p⟩:=s (λx g=>h x (Ep _ g)) j e
    exact⟨k,.inr o,p⟩
  have g:∀x:AA,∀j∈(x.ren (EZ i n)).ids,∃k∈x.ids,EZ i n k=j:=λx=>goX f x
  exact⟨g,λl=>f l λx _=>g x⟩
 exact q.1 x
where
 goX {i n:Nat} (f:∀(l:List AA),(∀x∈l,∀j∈(x.ren (EZ i n)).ids,∃k∈x.ids,EZ i n k=j)->∀j∈AA.idsL (AA.renL (EZ i n) l),∃k∈AA.idsL l,EZ i n k=j):∀x:AA,∀j∈(x.ren (EZ i n)).ids,∃k∈x.ids,EZ i n k=j
  |.v _,j,e=>by cases e
  |.P a b,j,e=>⟨a,Dw.2 rfl,(Dw.1 e).symm⟩
  |.ea a b c d,j,e=>⟨a,Dw.2 rfl,(Dw.1 e).symm⟩
  |.N a,j,e=>⟨a,Dw.2 rfl,(Dw.1 e).symm⟩
  |.F a,j,e=>⟨a,Dw.2 rfl,(Dw.1 e).symm⟩
  |.agg l,j,e=>f l (λx _=>goX f x) j e
  |.T l,j,e=>f l (λx _=>goX f x) j e
  |.fn _ l,j,e=>f l (λx _=>goX f x) j e
  |.bm _ l,j,e=>f l (λx _=>goX f x) j e
theorem Ap.shift(G:Ap φ ψ w0 F N m ρ0 ρ S tm a w)(i n)(S1)(L)(E:(CW S.length n&&Y (i<n))=true:=by kernel_rfl)(hS:S1=(S.map (AI.ren (EZ i n))).set i .E++[(An S i).ren (EZ i n)]:=by kernel_rfl)(ht:L=tm.map (λp=>(p.1,p.2.ren (EZ i n))):=by kernel_rfl):
  ∃aB,Ap φ ψ w0 F N m ρ0 aB S1 L a w:=by
 subst hS;subst ht;simp only[Aj,CW,beq_iff_eq,decide_eq_true_eq]at E;obtain⟨E,X⟩:=E;have r:((S.map (AI.ren (EZ i n))).set i .E++[(An S i).ren (EZ i n)]).length=n+1:=by simp[E]
 have z:∀j,An ((S.map (AI.ren (EZ i n))).set i .E++[(An S i).ren (EZ i n)]) j=if j=n then(An S i).ren (EZ i n)else if j=i then .E else(An S j).ren (EZ i n):=λj=>by
  by_cases e:j=n
  ·subst e
   rw[AZ rfl];simp only[An,Bu];rw[Ip (by simp[E])]
   simp[E]
  rw[AO e];by_cases o:j=i
  ·subst o
   rw[AZ rfl];simp only[An,Bu];rw[Fb CY];simp[show j<S.length by omega]
  rw[AO o];simp only[An,Bu];rcases Du j n with h|h
  ·rw[Fb CY,List.getElem?_set_ne (λh=>o h.symm),List.getElem?_map,CF O]
   rfl
  rw[FO CY,FO O];rfl
 have D:∀x:AA,(∀j∈x.ids,j<n)->∀j∈(x.ren (EZ i n)).ids,j<n+1:=λx h j g=>by
  obtain⟨k,b,c⟩:=ae0 j g;have:=h k b;rw[<-c];unfold EZ;split<;>omega
 let C:Nat->Value:=λj=>if j=n then ρ i else ρ j
 have u:∀j,j<n->C (EZ i n j)=ρ j:=λj g=>by
  show(if EZ i n j=n then ρ i else ρ (EZ i n j))=ρ j
  by_cases e:j=i
  ·subst e;simp[EZ,CW]
  have h:EZ i n j=j:=by simp[EZ,CW,e]
  rw[h,AO O]
 have M:∀x:AA,(∀j∈x.ids,j<n)->(x.ren (EZ i n)).val C=x.val ρ:=λx h=>by
  rw[AA.val_ren];exact AA.val_congr x λj g=>u j (h j g)
 have l:∀j,∀q∈(An S j).ids,q<n:=λj q f=>by have:=(G.bd j).1 q f;omega
 have s:∀j,∀q∈((An S j).ren (EZ i n)).ids,q<n+1:=λj q f=>by
  cases H:An S j with
  |C cs=>
   rw[H]at f;have b:=l j;rw[H]at b;exact D (.agg cs) b q f
  |H k d ls=>
   rw[H]at f;have b:=l j;rw[H]at b;exact D (.N k) b q f
  |_=>rw[H]at f;cases f
 refine⟨C,G.size,G.defs,λt y R=>?_,λt y R j g=>?_,λj=>⟨λq f=>?_,λg=>Fn g⟩,?_,?_,λj g=>?_⟩
 ·obtain⟨x,b,rfl⟩:=jg R
  rw[G.tmv t x b,M x λj g=>by have:=G.tmi t x b j g;omega]
 ·obtain⟨x,b,rfl⟩:=jg R
  rw[r];exact D x (λj g=>by have:=G.tmi t x b j g;omega) j g
 ·rw[r]
  rw[z]at f;split at f
  ·exact s i q f
  split at f
  ·cases f
  exact s j q f
 ·refine G.mem.map (λk:ι ⊕ Nat=>(match k with|.inl q=>Z (.inl q)|.inr j=>if j=n then Z (.inr i)else if j=i then I else Z (.inr j):Option (ι ⊕ Nat))) ?_ ?_
  ·intro k k' x b c
   match k,k' with
   |.inl q,.inl q'=>simp at b c;rw[<-b]at c;simpa using c.symm
   |.inl q,.inr j=>simp at b;subst b;simp at c;split at c<;>simp at c
   |.inr j,.inl q=>simp at c;subst c;simp at b;split at b<;>simp at b
   | .inr j, .inr T =>
    simp only at b c;by_cases Q:j=n<;>by_cases o:T=n
    ·rw[Q,o]
    ·rw[AZ Q]at b
     rw[AO o]at c;by_cases v:T=i
     ·rw[AZ v]at c;cases c
     rw[AO v]at c;simp at b c;rw[<-b]at c;exact absurd (Sum.inr.inj c) v
    ·rw[AZ o]at c
     rw[AO Q]at b;by_cases v:j=i
     ·rw[AZ v]at b;cases b
     rw[AO v]at b;simp at b c;rw[<-c]at b;exact absurd (Sum.inr.inj b) v
    rw[AO Q]at b;rw[AO o]at c;by_cases v:j=i
    ·rw[AZ v]at b;cases b
    by_cases e4:T=i
    ·rw[AZ e4]at c;cases c
    rw[AO v]at b;rw[AO e4]at c;simp at b c;rw[<-b]at c;rw[Sum.inr.inj c]
  intro k
  match k with
  |.inl q=>exact .inl ⟨_,rfl,rfl⟩
  | .inr j =>
   by_cases e:j=n
   ·refine .inl ⟨.inr i,by simp[e],?_⟩
    simp only[Am];rw[z,AZ e];subst e;have b:EZ i j i=j:=by simp[EZ,CW]
    rw[AI.res_ren' (An S i) b];exact AI.res_congr _ (λq f=>u q (l i q f)) (.inr (.inr (u i X)))
   by_cases o:j=i
   ·refine .inr ?_
    simp only[Am];rw[z,AO e,AZ o];rfl
   refine .inl ⟨.inr j,by simp[e,o],?_⟩
   simp only[Am];rw[z,AO e,AO o];rcases Du j n with g|g
   ·have b:EZ i n j=j:=by simp[EZ,CW,o]
    rw[AI.res_ren' (An S j) b];exact AI.res_congr _ (λq f=>u q (l j q f)) (.inr (.inr (u j g)))
   rw[Fn O];rfl
 ·have:=G.le;rw[r];omega
 have:=G.le;show(if j=n then ρ i else ρ j)=ρ0 j
 rw[AO O];exact G.old j g
end
abbrev GJ(l:List AV):AI:=.L 76 (.N l)
abbrev Ej(l:List Int):AI:=.L 3 (.C l)
theorem Kl(l)(b)(a n o x y z u)(c:J l<=8000000)(d:J b<=8000000):AN.ok prog ⟨146,[.agg [.N 0,.N 1,A a],A n,.agg [A o,A x,A y,A z,A u]],[GJ l,Ej b],[.E,.E,GJ (l++[⟨o,x,y,z,u⟩]),Ej (b++[n])],.agg [.N 2,.N 3,A a]⟩:=by
 refine BP 20 func146 [.L 76 (D.N l),.L 3 (D.C b)] [(0,.agg [.N 0,.N 1,A a]),(1,A n),(2,.agg [A o,A x,A y,A z,A u])] λG=>?_;refine B (AM G AB [0,1,2,10,18] [.L 76 (D.N l),.L 3 (D.C b),.C [.N 0,.N 1,A a],.C [A o,A x,A y,A z,A u],.C [AK,AK,A 0]] [(1,A n),(3,.P 2 0),(5,.P 3 0),(6,.P 4 0)] λG=>B (CT G AB [0,1,2,4,37] [.E,.L 3 (D.C b),.C [.N 4,.N 1,A a],.C [AK,AK,A 0],.L 76 (D.N (l++([AV.mk o x y z u]++[])))] [(1,A n),(3,.P 2 0),(6,.P 3 0)] (EP (J l+1) 40 []) (EW O Ay) λG=>B (CT G AB [0,1,2,3,4,37] [.E,.E,.C [.N 4,.N 5,A a],.C [AK,AK,A 0],.L 76 (D.N (l++([AV.mk o x y z u]++[]))),.L 3 (D.C (b++([n]++[])))] [(3,.P 2 0),(6,.P 3 0)] (EP (J b+1) 8 []) (EW O Ay) λG=>B (AM G AB [0,1,3,4,5] [.E,.E,.C [.N 3,.N 4,A a],.L 76 (D.N (l++([AV.mk o x y z u]++[]))),.L 3 (D.C (b++([n]++[])))] [(6,.P 2 0)] λG=>AT ?_))));exact Br G [0,1,3,4]
abbrev Xq(l:List AV)(c:List Int)(b n:Int)(e:AF)(a:Int):AN:=⟨195,[.agg [.N 0,.N 1,A b],A n,Dc e 2,A a],[GJ l,Ej c,AP e.k],[.E,.E,AP e.k,GJ (l++AJ e a),Ej (c++Ac (AJ e a).length n)],.agg [.N 3,.N 4,A b]⟩
theorem pV{e}{r}(k:e.t=1):AJ e r=[⟨1,r,e.v,0,0⟩]:=by rw[ZR,AZ k]
theorem qb{e}{r}(k:e.t=2):AJ e r=[⟨2,r,e.v,0,0⟩]:=by rw[ZR,AO O,AZ k]
theorem TO(a)(k):By (a.take k)<=By a/\(k<J a->By (a.take k)+1+BB (a.getD k K)<=By a)/\(a.take k).length<=By (a.take k):=by
 refine⟨?_,λh=>?_,UA _⟩
 ·have:=Ud (a.take k) (a.drop k)
  rw[List.take_append_drop]at this;omega
 have b:=Ud (a.take (k+1)) (a.drop (k+1));rw[List.take_append_drop,Gr _ _ h,Ud, <-DU (d:=K) h]at b;simp only[By]at b;omega
section
variable{e:AF}{l:List AV}{fr:List Int}{n reg:Int}{k:Nat}
theorem iN(e):BB e=By e.k:=by cases e;rfl
theorem nG(f:0<=reg)(b:reg+BB e<=2000000)(a:k<J e.k):0<=reg+k/\reg+k+BB (e.k.getD k K)<=2000000:=by
 have d:=(TO e.k k).2.1 a;have c:=(TO e.k k).2.2;rw[List.length_take]at c;rw[iN]at b;omega
theorem pg(b:J l+BB e<=5000000)(a:k<J e.k):(l++Bg (e.k.take k) reg).length+BB (e.k.getD k K)<=5000000:=by
 have c:=(TO e.k k).2.1 a;have d:=ZZ (e.k.take k) reg;rw[iN]at b;rw[Az];omega
theorem Mc(a:J l+BB e<=5000000):(l++Bg (e.k.take k) reg).length<=5000000:=by
 have b:=(TO e.k k).1;have c:=ZZ (e.k.take k) reg;rw[iN]at a;rw[Az];omega
theorem Lh(a:J fr=J l):(fr++Ac (Bg (e.k.take k) reg).length n).length=(l++Bg (e.k.take k) reg).length:=by simp[a]
theorem sf(a:k<J e.k):l++Bg (e.k.take (k+1)) reg=l++Bg (e.k.take k) reg++AJ (e.k.getD k K) (reg+k):=by rw[pu a,Fj]
theorem nX(a:k<J e.k):fr++Ac (Bg (e.k.take (k+1)) reg).length n=fr++Ac (Bg (e.k.take k) reg).length n++Ac (AJ (e.k.getD k K) (reg+k)).length n:=by
 rw[pu a,Az,Fj,List.replicate_append_replicate]
theorem lr:l=l++Bg (e.k.take 0) reg:=by simp[Bg]
theorem nT:fr=fr++Ac (Bg (e.k.take 0) reg).length n:=by simp[Bg]
theorem Ty(d:¬e.t=1)(a:¬e.t=2)(b:J e.k<=k){x}(c:Lp e.t e.v reg=x):l++AJ e reg=l++Bg (e.k.take k) reg++[x]:=by
 rw[ZR,AO d,AO a,Dq b,c,Fj]
theorem Ux(c:¬e.t=1)(a:¬e.t=2)(b:J e.k<=k):fr++Ac (AJ e reg).length n=fr++Ac (Bg (e.k.take k) reg).length n++[n]:=by
 rw[ZR,AO c,AO a,Dq b,Fj,Az,BK,Bc,List.replicate_succ']
theorem rc(k:e.t=3):Lp e.t e.v reg=⟨4,reg,e.v,reg,0⟩:=by rw[Lp,AZ k]
theorem nD(k:e.t=11):Lp e.t e.v reg=⟨7,reg,reg,reg+1,reg+2⟩:=by rw[Lp,AO O,AZ k]
theorem tF(a:¬e.t=3)(k:¬e.t=11):Lp e.t e.v reg=⟨6,reg,e.t,reg,reg+1⟩:=by rw[Lp,AO a,AO k]
end
abbrev Nv(e:AF)(l:List AV)(b:List Int)(n:Int)(a:Int):List AI:=[.E,.E,AP e.k,.L 76 (D.N (l++AJ e a)),.L 3 (D.C (b++Ac (AJ e a).length n))]
abbrev NQ(n:Int)(a:Int)(b:List (Nat×AA)):List (Nat×AA):=(1,A n)::(3,A a)::(4,.P 3 0)::(6,.P 4 0)::(8,.P 5 0)::b
abbrev am(e:AF)(a:Int)(b:List AI):List AI:=.E::.E::AP e.k::.C [.N 6,.N 7,A a]::.C (Bz e 2)::.C [.v (.slice I 0 0),.v (.slice I 0 0),A 0]::b
theorem A4(e)(s:∀u,u∈e.k->∀(l:List AV) (d:List Int) (c n b:Int),0<=b->b+BB u<=2000000->J l+BB u<=5000000->J d=J l->AN.ok prog (Xq l d c n u b))(l)(d)(c n b:Int)(L:0<=b)(y:b+BB e<=2000000)(h:J l+BB e<=5000000)(i:J d=J l):AN.ok prog (Xq l d c n e b):=by
  refine BP 82 func195 [.L 76 (D.N l),.L 3 (D.C d),AP e.k] [(0,.agg [.N 0,.N 1,A c]),(1,A n),(2,Dc e 2),(3,A b)] λG=>?_
  have j:J e.k<=BB e:=by cases e;exact UA _
  refine B (AM G AB [0,1,2,3,11,19] [.L 76 (D.N l),.L 3 (D.C d),AP e.k,.C [.N 0,.N 1,A c],.C (Bz e 2),.C [AK,AK,A 0]] (NQ n b []) λG=>B (B (AQ G AB [(11,A e.t)] λG=>BN (B (AQ G AB [(12,AC (e.t==1))] λG=>Cu G (λH p=>?_) λH p=>?_)))))
  ·
   refine B (AQ G AB [(21,AC (e.t==2))] λG=>Cu G (λC q=>?_) λC q=>?_)
   ·
    refine Aq (BL (B (B (BS G AB (NQ n b [(9,A 0)]) λG=>BN ?_))));obtain⟨m,G⟩:=G.shift 0 6 [.E,.L 3 (D.C d),AP e.k,.C [.N 6,.N 1,A c],.C (Bz e 2),.C [AK,AK,A 0],.L 76 (D.N l)] (NQ n b [(9,A 0)]);obtain⟨m,G⟩:=G.shift 1 7 (am e c [.L 76 (D.N l),.L 3 (D.C d)]) (NQ n b [(9,A 0)]);replace G:=G.as (am e c [.L 76 (D.N (l++Bg (Ae 0 e.k) b)),.L 3 (D.C (d++Ac (Bg (Ae 0 e.k) b).length n))]) (NQ n b [(9,A 0)]) (by have f:(l++Bg (Ae 0 e.k) b:List AV)=(l):=lr.symm;have g:(d++Ac (Bg (Ae 0 e.k) b).length n:List Int)=(d):=nT.symm;(first|rw[f,g]|simp only[f,g])<;>rfl) Au;refine DR (h:=Nat) (λk=>k<=J e.k) (λk=>J e.k-k) (λk=>[.E,.E,AP e.k,.C [.N 6,.N 7,A c],.C (Bz e 2),.C [AK,AK,A 0],.L 76 (.N (l++Bg (e.k.take k) b)),.L 3 (.C (d++Ac (Bg (e.k.take k) b).length n))]) (λk=>[(1,A n),(3,A b),(4,.P 3 0),(6,.P 4 0),(8,.P 5 0),(9,A k)]) 0 O (Ap.at G _ _) ?_;clear G;intro k m a w M G;replace G:=Ap.at G (am e c [.L 76 (D.N (l++Bg (Ae k e.k) b)),.L 3 (D.C (d++Ac (Bg (Ae k e.k) b).length n))]) (NQ n b [(9,A k)]);refine B (B (AQ G AB [(34,AC (Y ((k:Int)<J e.k)))] λG=>DZ G (λE r=>?_) λE r=>?_))
    ·
     refine wp_exit (Bd (Bd (DG (B (B (AQ G AB [(49,A e.t)] λG=>BN (B (AQ G AB [(50,AC (e.t==3))] λG=>Cu G (λo F=>?_) λo F=>?_))))))))
     ·
      refine B (AQ G AB [(60,AC (e.t==11))] λG=>Cu G (λx z=>?_) λx z=>?_)
      · refine Aq (BL (B (CT G (Ai 9 [6,7] (Kl (l++Bg (Ae k e.k) b) (d++Ac (Bg (Ae k e.k) b).length n) c n 6 b e.t b (b+1) (by have:=Mc (k:=k) (reg:=b) h;have:=Lh (e:=e) (n:=n) (k:=k) (reg:=b) i;omega) (by have:=Mc (k:=k) (reg:=b) h;have:=Lh (e:=e) (n:=n) (k:=k) (reg:=b) i;omega))) [0,1,2,5,80,81] [.E,.E,AP e.k,.C [.N 4,.N 5,A c],.L 76 (D.N (l++Bg (Ae k e.k) b++[AV.mk 6 b e.t b (b+1)])),.L 3 (D.C (d++Ac (Bg (Ae k e.k) b).length n++[n]))] [(8,.P 3 0)] [BC (b+1)] (BA O) λG=>AT ?_)));exact Br G [0,1,2,4,5] (by show _=BM [0,1,2,4,5] (Nv e l d n b);unfold Nv;have f:(l++AJ e b:List AV)=(l++Bg (Ae k e.k) b++[AV.mk 6 b e.t b (b+1)]):=(Ty O O O (tF O O));have g:(d++Ac (AJ e b).length n:List Int)=(d++Ac (Bg (Ae k e.k) b).length n++[n]):=(Ux O O O);(first|rw[f,g]|simp only[f,g])<;>rfl)
      refine B (CT G (Ai 9 [6,7] (Kl (l++Bg (Ae k e.k) b) (d++Ac (Bg (Ae k e.k) b).length n) c n 7 b b (b+1) (b+2) (by have:=Mc (k:=k) (reg:=b) h;have:=Lh (e:=e) (n:=n) (k:=k) (reg:=b) i;omega) (by have:=Mc (k:=k) (reg:=b) h;have:=Lh (e:=e) (n:=n) (k:=k) (reg:=b) i;omega))) [0,1,2,3,4,5,6,7,80,81] [.E,.E,AP e.k,.C [.N 6,.N 7,A c],.C (Bz e 2),.C [.N 8,.N 9,A c],.E,.E,.L 76 (D.N (l++Bg (Ae k e.k) b++[AV.mk 7 b b (b+1) (b+2)])),.L 3 (D.C (d++Ac (Bg (Ae k e.k) b).length n++[n]))] (NQ n b []) [BC (b+1),BC (b+2)] (Co O) λG=>AT (Cg (Ar ?_)));exact Br G [0,1,2,8,9] (by show _=BM [0,1,2,8,9] (Nv e l d n b);unfold Nv;have f:(l++AJ e b:List AV)=(l++Bg (Ae k e.k) b++[AV.mk 7 b b (b+1) (b+2)]):=(Ty O O O (nD O));have g:(d++Ac (AJ e b).length n:List Int)=(d++Ac (Bg (Ae k e.k) b).length n++[n]):=(Ux O O O);(first|rw[f,g]|simp only[f,g])<;>rfl)
     refine B (AM G (Ai 7 [6,7] (Kl (l++Bg (Ae k e.k) b) (d++Ac (Bg (Ae k e.k) b).length n) c n 4 b e.v b 0 (by have:=Mc (k:=k) (reg:=b) h;have:=Lh (e:=e) (n:=n) (k:=k) (reg:=b) i;omega) (by have:=Mc (k:=k) (reg:=b) h;have:=Lh (e:=e) (n:=n) (k:=k) (reg:=b) i;omega))) [0,1,2,3,4,5,6,7,64,65] [.E,.E,AP e.k,.C [.N 6,.N 7,A c],.C (Bz e 2),.C [.N 8,.N 9,A c],.E,.E,.L 76 (D.N (l++Bg (Ae k e.k) b++[AV.mk 4 b e.v b 0])),.L 3 (D.C (d++Ac (Bg (Ae k e.k) b).length n++[n]))] (NQ n b []) λG=>AT (Cg (Ar ?_)));exact Br G [0,1,2,8,9] (by show _=BM [0,1,2,8,9] (Nv e l d n b);unfold Nv;have f:(l++AJ e b:List AV)=(l++Bg (Ae k e.k) b++[AV.mk 4 b e.v b 0]):=(Ty O O O (rc O));have g:(d++Ac (AJ e b).length n:List Int)=(d++Ac (Bg (Ae k e.k) b).length n++[n]):=(Ux O O O);(first|rw[f,g]|simp only[f,g])<;>rfl)
    refine Aq (B (BN (Df G (Ai 10 [6,7,56] (s (e.k.getD k K) (RI O) (l++Bg (Ae k e.k) b) (d++Ac (Bg (Ae k e.k) b).length n) c n (b+(k:Int)) O ((nG L y O).2) (pg h O) (Lh i))) [0,0,0,4,0,28,60,0,0,384,1023,2047] [0,1,2,3,4,5,88,89] (am e c [.L 76 (D.N (l++Bg (Ae k e.k) b++AJ (e.k.getD k K) (b+(k:Int)))),.L 3 (D.C (d++Ac (Bg (Ae k e.k) b).length n++Ac (AJ (e.k.getD k K) (b+(k:Int))).length n))]) (NQ n b [(9,A k)]) (CD k k (J e.k) ((BC (b+(k:Int)))::[])) (CE O (BA O)) λG=>BL (Bi G AB [(9,A ((k:Int)+1))] [BC ((k:Int)+1)] (BA O) λG=>?_))));exact Ce G (k+1) O O (AH 8) (by have f:(l++Bg (Ae (k+1) e.k) b:List AV)=(l++Bg (Ae k e.k) b++AJ (e.k.getD k K) (b+(k:Int))):=(sf O);have g:(d++Ac (Bg (Ae (k+1) e.k) b).length n:List Int)=(d++Ac (Bg (Ae k e.k) b).length n++Ac (AJ (e.k.getD k K) (b+(k:Int))).length n):=(nX O);(first|rw[f,g]|simp only[f,g])<;>rfl)
   refine B (AM G (Ai 6 [0,1] (Kl l d c n 2 b e.v 0 0 O O)) [0,1,2,3,4,5,54,55] [.E,.E,AP e.k,.C [.N 0,.N 1,A c],.C (Bz e 2),.C [.N 6,.N 7,A c],.L 76 (D.N (l++[AV.mk 2 b e.v 0 0])),.L 3 (D.C (d++[n]))] (NQ n b []) λG=>AT (Cg (Ar ?_)));exact Br G [0,1,2,6,7] (by show _=BM [0,1,2,6,7] (Nv e l d n b);unfold Nv;rw[qb O]<;>rfl)
  refine B (AM G (Ai 6 [0,1] (Kl l d c n 1 b e.v 0 0 O O)) [0,1,2,3,4,5,54,55] [.E,.E,AP e.k,.C [.N 0,.N 1,A c],.C (Bz e 2),.C [.N 6,.N 7,A c],.L 76 (D.N (l++[AV.mk 1 b e.v 0 0])),.L 3 (D.C (d++[n]))] (NQ n b []) λG=>AT (Cg (Ar ?_)));exact Br G [0,1,2,6,7] (by show _=BM [0,1,2,6,7] (Nv e l d n b);unfold Nv;rw[pV O]<;>rfl)
theorem nN(e):∀(l:List AV) (c:List Int) (b n a:Int),0<=a->a+BB e<=2000000->J l+BB e<=5000000->J c=J l->AN.ok prog (Xq l c b n e a):=
 AF.ind (P:=λe=>∀(l:List AV) (c:List Int) (b n a:Int),0<=a->a+BB e<=2000000->J l+BB e<=5000000->J c=J l->AN.ok prog (Xq l c b n e a)) (λk v d h l c b n a j i g f=>A4 ⟨k,v,d⟩ (λu m=>h u m) l c b n a j i g f) e
theorem JJ{c f d k}{a}(i:a.all (Ax c f (d+1))=V)(g:k<J a):EE c f (a.getD k K)=V/\(a.getD k K).b.all (Ax c f d)=V/\(a.getD k K).e.all (Ax c f d)=true:=by
 have h:=Bt.1 i _ (EL g);rw[Lu,Aj,Aj]at h;rw[DU g];exact h
abbrev fL(l:List AV)(b:List Int)(a:Int)(s:AG)(d:Int):AN:=⟨182,[.agg [.N 0,.N 1,A a],Fw s 2,A d],[GJ l,Ej b]++ID s,[.E,.E]++ID s++[GJ (DL s d (l,b,a)).1,Ej (DL s d (l,b,a)).2.1],.agg [.N 6,.N 7,A (DL s d (l,b,a)).2.2]⟩
abbrev kM(l:List AV)(c:List Int)(a:Int)(b:List AG)(d:Int):AN:=⟨145,[.agg [.N 0,.N 1,A a],.N 2,A d],[GJ l,Ej c,AE b],[.E,.E,AE b,GJ (AW b d (l,c,a)).1,Ej (AW b d (l,c,a)).2.1],.agg [.N 3,.N 4,A (AW b d (l,c,a)).2.2]⟩
mutual
theorem o6:∀(s:AG) (d:Int) (x:Eg),x.2.2<=(DL s d x).2.2/\(DL s d x).2.2<=x.2.2+Gn s
 | ⟨k, t, i, v, c, b, e⟩, d, x => by
  rw[DL,Gn];split
  ·have h:=QB b (d+1) (CN (x.1,x.2.1,x.2.2+1) x.2.2 [⟨1,9+d,c,0,0⟩])
   simp only[CN]at h ⊢;omega
  split
  ·simp only[CN];omega
  split
  ·simp only[CN];omega
  split
  ·simp only[CN];omega
  simp only;generalize hy:CN (x.1,x.2.1,x.2.2+1) x.2.2 (AJ v 0)=y;have hy1:y.2.2=x.2.2+1:=by rw[<-hy];rfl
  have h1:=QB b (d+1) (CN y x.2.2 [⟨9,0,0,0,0⟩]);generalize AW b (d+1) (CN y x.2.2 [⟨9,0,0,0,0⟩])=z at h1 ⊢;have h2:=QB e (d+1) (Jv (CN z x.2.2 [⟨8,0,0,0,0⟩]).1 (J y.1) ((CN z x.2.2 [⟨8,0,0,0,0⟩]).1.length:Int),(CN z x.2.2 [⟨8,0,0,0,0⟩]).2);simp only[CN]at h1 h2 ⊢;omega
theorem QB:∀(ss:List AG) (d:Int) (x:Eg),x.2.2<=(AW ss d x).2.2/\(AW ss d x).2.2<=x.2.2+CP ss
 |[],_,x=>by simp[AW,CP]
 |s::r,d,x=>by
  have h1:=o6 s d x;have h2:=QB r d (DL s d x);rw[AW,CP];omega
end
section
variable{l:List AV}{fr:List Int}{at0 d:Int}{s:AG}
theorem YG(k:s.t=1):DL s d (l,fr,at0)=(l++AJ s.v 0++[⟨3,s.g,0,0,0⟩],fr++Ac (AJ s.v 0).length at0++[at0],at0+1):=by
 obtain⟨a,h,e,c,i,b,f⟩:=s;have k:a=1:=k;rw[DL];simp only[k,Int.reduceEq,if_true,if_false];rfl
theorem XP(k:s.t=5):DL s d (l,fr,at0)=(l++AJ s.v 0++[⟨11,0,0,0,0⟩]++[⟨3,s.g,0,0,0⟩],fr++Ac (AJ s.v 0).length at0++[at0]++[at0],at0+1):=by
 obtain⟨a,h,e,c,i,b,f⟩:=s;have k:a=5:=k;rw[DL];simp only[k,Int.reduceEq,if_true,if_false];rfl
theorem YC(k:s.t=2):DL s d (l,fr,at0)=(l++AJ s.v 0++AJ s.i 1++[⟨5,s.g,1,0,0⟩],fr++Ac (AJ s.v 0).length at0++Ac (AJ s.i 1).length at0++[at0],at0+1):=by
 obtain⟨a,h,e,c,j,b,f⟩:=s;have k:a=2:=k;rw[DL];simp only[k,Int.reduceEq,if_true,if_false];rfl
theorem XX(k:s.t=4):DL s d (l,fr,at0)=((AW s.b (d+1) (l++[⟨1,9+d,s.count,0,0⟩],fr++[at0],at0+1)).1++[⟨10,9+d,(((l++[(⟨1,9+d,s.count,0,0⟩:AV)]).length)),0,0⟩],(AW s.b (d+1) (l++[⟨1,9+d,s.count,0,0⟩],fr++[at0],at0+1)).2.1++[at0],(AW s.b (d+1) (l++[⟨1,9+d,s.count,0,0⟩],fr++[at0],at0+1)).2.2):=by
 obtain⟨a,h,f,e,i,c,g⟩:=s;have k:a=4:=k;rw[DL];simp only[k,if_true,Az,BK,Bc];rfl
abbrev RB(l:List AV)(fr:List Int)(at0 d:Int)(s:AG):Eg:=AW s.b (d+1) (l++AJ s.v 0++[⟨9,0,0,0,0⟩],fr++Ac (AJ s.v 0).length at0++[at0],at0+1)
abbrev Vv(l:List AV)(fr:List Int)(at0 d:Int)(s:AG):Eg:=AW s.e (d+1) (Jv ((RB l fr at0 d s).1++[⟨8,0,0,0,0⟩]) (l++AJ s.v 0).length ((((RB l fr at0 d s).1++[(⟨8,0,0,0,0⟩:AV)]).length:Nat):Int),(RB l fr at0 d s).2.1++[at0],(RB l fr at0 d s).2.2)
theorem gC(k:s.t=3):DL s d (l,fr,at0)=(OJ (Vv l fr at0 d s).1 (RB l fr at0 d s).1.length (((Vv l fr at0 d s).1.length)),(Vv l fr at0 d s).2.1,(Vv l fr at0 d s).2.2):=by
 obtain⟨a,g,e,c,h,b,f⟩:=s;have k:a=3:=k;rw[DL];simp only[k,Int.reduceEq,if_false,CN,Az,BK,Bc,Nat.add_sub_cancel,GS,List.replicate_one,Vv,RB];rfl
theorem Ly(a)(d)(x):(AW a d x).1.length=J x.1+DY a:=(Jn a d x).1
theorem mv(h:J l+(4+4*CS s)<=5000000):J l+BB s.v<=5000000/\(0:Int)+BB s.v<=2000000/\(l++AJ s.v 0).length+BB s.i<=5000000/\(1:Int)+BB s.i<=2000000/\(l++AJ s.v 0++AJ s.i 1).length+4<=5000010:=by
 have a:=QI s.v 0;have f:=QI s.i 1;have c:CS s=BB s.i+BB s.v+Ah s.b+Ah s.e:=by cases s;rfl
 simp only[Az];omega
end
abbrev LQ(s:AG)(l:List AV)(g:List Int)(f:Int)(d:Int):=AW s.e (d+1) (((AW s.b (d+1) (l++AJ s.v 0++[AV.mk 9 0 0 0 0],g++Ac (AJ s.v 0).length f++[f],f+1)).1++[AV.mk 8 0 0 0 0]).set (l++AJ s.v 0).length (AV.mk (((AW s.b (d+1) (l++AJ s.v 0++[AV.mk 9 0 0 0 0],g++Ac (AJ s.v 0).length f++[f],f+1)).1++[AV.mk 8 0 0 0 0]).getD (l++AJ s.v 0).length K).op (((AW s.b (d+1) (l++AJ s.v 0++[AV.mk 9 0 0 0 0],g++Ac (AJ s.v 0).length f++[f],f+1)).1++[AV.mk 8 0 0 0 0]).getD (l++AJ s.v 0).length K).a (((AW s.b (d+1) (l++AJ s.v 0++[AV.mk 9 0 0 0 0],g++Ac (AJ s.v 0).length f++[f],f+1)).1++[AV.mk 8 0 0 0 0]).length:Int) (((AW s.b (d+1) (l++AJ s.v 0++[AV.mk 9 0 0 0 0],g++Ac (AJ s.v 0).length f++[f],f+1)).1++[AV.mk 8 0 0 0 0]).getD (l++AJ s.v 0).length K).c (((AW s.b (d+1) (l++AJ s.v 0++[AV.mk 9 0 0 0 0],g++Ac (AJ s.v 0).length f++[f],f+1)).1++[AV.mk 8 0 0 0 0]).getD (l++AJ s.v 0).length K).d),(AW s.b (d+1) (l++AJ s.v 0++[AV.mk 9 0 0 0 0],g++Ac (AJ s.v 0).length f++[f],f+1)).2.1++[f],(AW s.b (d+1) (l++AJ s.v 0++[AV.mk 9 0 0 0 0],g++Ac (AJ s.v 0).length f++[f],f+1)).2.2)
abbrev IB(s:AG)(l:List AV)(c:List Int)(a:Int)(d:Int):=AW s.b (d+1) (l++AJ s.v 0++[AV.mk 9 0 0 0 0],c++Ac (AJ s.v 0).length a++[a],a+1)
abbrev TE(s:AG)(l:List AV)(c:List Int)(a:Int)(d:Int):=AW s.b (d+1) (l++AJ s.v 0++[AV.mk 1 (9+d) s.count 0 0],c++Ac (AJ s.v 0).length a++[a],a+1)
abbrev QH(s:AG)(l:List AV)(c:List Int)(a:Int)(d:Int):=AW s.b (d+1) (l++[AV.mk 1 (9+d) s.count 0 0],c++[a],a+1)
abbrev Me(s:AG)(l:List AV)(c:List Int)(a:Int)(d:Int):List AI:=[.E,.E,AP s.i.k,AP s.v.k,AE s.b,AE s.e,.L 76 (D.N (DL s d (l,c,a)).1),.L 3 (D.C (DL s d (l,c,a)).2.1)]
abbrev rY(s:AG)(l:List AV)(e:List Int)(a:Int)(d:Int):AI:=.L 76 (D.N ((LQ s l e a d).1.set (IB s l e a d).1.length (AV.mk ((LQ s l e a d).1.getD (IB s l e a d).1.length K).op ((LQ s l e a d).1.length:Int) ((LQ s l e a d).1.getD (IB s l e a d).1.length K).b ((LQ s l e a d).1.getD (IB s l e a d).1.length K).c ((LQ s l e a d).1.getD (IB s l e a d).1.length K).d)))
abbrev Kr:AI:=.C [.v (.slice I 0 0),.v (.slice I 0 0),A 0]
abbrev Pi(a:Int):AI:=.C [.N 9,.N 10,A (a+1)]
abbrev ZO(s:AG)(b:List Int)(a:Int):AI:=.L 3 (D.C (b++Ac (AJ s.v 0).length a++[a]))
abbrev JD(s:AG)(a:List AI):List AI:=.E::.E::AP s.i.k::AP s.v.k::AE s.b::AE s.e::a
abbrev Iu(a:Int)(d:Int)(b:List (Nat×AA)):List (Nat×AA):=(2,A d)::(3,.P 6 0)::(4,.P 7 0)::(6,.P 8 0)::(7,A a)::b
theorem qj(w z r)(s)(q:EE w z s=V)(aB:s.b.all (Ax w z r)=V)(aC:s.e.all (Ax w z r)=V)
    (y:∀(C:List AG) (l:List AV) (h:List Int) (f d:Int),C.all (Ax w z r)=V->J l+4*Ah C<=5000000->J h=J l->0<=d->d+r<=100->0<=f->f+CP C<=5000000->AN.ok prog (kM l h f C d))
    (l) (h) (f d:Int) (X:J l+(4+4*CS s)<=5000000) (p:J h=J l) (r3:0<=d) (r4:d+(r+1)<=100) (r5:0<=f) (r6:f+Gn s<=5000000):AN.ok prog (fL l h f s d):=by
  refine BP 130 func182 [.L 76 (D.N l),.L 3 (D.C h),AP s.i.k,AP s.v.k,AE s.b,AE s.e] [(0,.agg [.N 0,.N 1,A f]),(1,Fw s 2),(2,A d)] λG=>?_;have hn:=PW s;have m:=mv X
  have aD:CS s=BB s.i+BB s.v+Ah s.b+Ah s.e:=by cases s;rfl
  have hv:=QI s.v 0;refine B (AM G AB [0,1,2,3,4,5,6,14,22] [.L 76 (D.N l),.L 3 (D.C h),AP s.i.k,AP s.v.k,AE s.b,AE s.e,.C [.N 0,.N 1,A f],.C (Ct s 2),Kr] [(2,A d),(3,.P 6 0),(4,.P 7 0),(6,.P 8 0)] λG=>B (AQ G AB [(7,A f)] λG=>B (CT G AB (AH 9) [.L 76 (D.N l),.L 3 (D.C h),AP s.i.k,AP s.v.k,AE s.b,AE s.e,.C [.N 0,.N 1,A (f+1)],.C (Ct s 2),Kr] (Iu f d []) [BC (f+1)] (BA O) λG=>B (B (AQ G AB [(20,AC (s.t !=4))] λG=>IP G (λh0 P=>?_) λh0 P=>?_)))))
  ·
   refine Aq (B (B (AQ G AB [(27,A s.t)] λG=>BN (B (BS G AB (Iu f d [(27,A s.t),(28,AC (s.t==1))]) λG=>?_)))));cases H:(s.t==1)
   ·
    have R:=ne_of_beq_false H;refine Bo G _ H (B (BS G AB (Iu f d [(27,A s.t),(36,AC (s.t==5))]) λG=>?_));cases L:(s.t==5)
    ·
     have S:=ne_of_beq_false L;refine Bo G _ L (B (BS G AB (Iu f d [(27,A s.t),(48,AC (s.t==2))]) λG=>?_));cases E:(s.t==2)
     ·
      have q3:=ne_of_beq_false E;refine Bo G _ E (B (BS G AB (Iu f d [(61,AC (s.t==3))]) λG=>?_));cases F:(s.t==3)
      · have q4:=ne_of_beq_false F;refine Bo G _ F (Aq (BL (B (Bi G AB [(10,A (9+d))] [BC ((9:Int)+d)] (BA O) λG=>B (AM G (Ai 6 [0,1] (Kl l h (f+1) f 1 (9+d) s.count 0 0 O O)) [0,1,2,3,4,5,6,7,8,57,58] (JD s [Pi f,.C (Ct s 2),Kr,.L 76 (D.N (l++[AV.mk 1 (9+d) s.count 0 0])),.L 3 (D.C (h++[f]))]) (Iu f d [(10,A (9+d))]) λG=>B (AQ G AB [(11,A ((l++[AV.mk 1 (9+d) s.count 0 0]).length:Int))] λG=>B (CT G (Ai 5 [9,10,4] (y s.b (l++[AV.mk 1 (9+d) s.count 0 0]) (h++[f]) (f+1) (d+1) Ab (by simp only[Az,BK,Bc];have:=m.2.2.2.2;simp only[Az]at this;omega) (by have:=m.2.2.2.2;simp only[Az,BK,Bc]at this ⊢;omega) O O O O)) [0,1,2,3,4,5,6,8,51,52] (JD s [.C [.N 8,.N 9,A (QH s l h f d).2.2],Kr,.L 76 (D.N (QH s l h f d).1),.L 3 (D.C (QH s l h f d).2.1)]) [(3,.P 6 0),(6,.P 7 0),(7,A f),(10,A (9+d)),(11,A ((l++[AV.mk 1 (9+d) s.count 0 0]).length:Int))] [BC (d+1)] (BA O) λG=>B (AM G (Ai 5 [8,9] (Kl ((AW s.b (d+1) (l++[AV.mk 1 (9+d) s.count 0 0],h++[f],f+1)).1) ((AW s.b (d+1) (l++[AV.mk 1 (9+d) s.count 0 0],h++[f],f+1)).2.1) ((AW s.b (d+1) (l++[AV.mk 1 (9+d) s.count 0 0],h++[f],f+1)).2.2) f 10 (9+d) (((l++[AV.mk 1 (9+d) s.count 0 0]).length:Int)) 0 0 (by have:=(Jn s.b (d+1) (l++[⟨1,9+d,s.count,0,0⟩],h++[f],f+1));have:=Mg s.b;simp only[Az,BK,Bc]at*;omega) (by have:=(Jn s.b (d+1) (l++[⟨1,9+d,s.count,0,0⟩],h++[f],f+1));have:=Mg s.b;simp only[Az,BK,Bc]at*;omega))) [0,1,2,3,4,5,7,50,51] (JD s [.C [.N 7,.N 8,A (QH s l h f d).2.2],.L 76 (D.N ((QH s l h f d).1++[AV.mk 10 (9+d) ((l++[AV.mk 1 (9+d) s.count 0 0]).length:Int) 0 0])),.L 3 (D.C ((QH s l h f d).2.1++[f]))]) [(6,.P 6 0)] λG=>AT ?_))))))));exact Cr (.agg [.N 7,.N 8,A (AW s.b (d+1) (l++[AV.mk 1 (9+d) s.count 0 0],h++[f],f+1)).2.2]) G [0,1,2,3,4,5,7,8] (by have j:((DL s d (l,h,f)).2.2:Int)=((AW s.b (d+1) (l++[AV.mk 1 (9+d) s.count 0 0],h++[f],f+1)).2.2):=(by have n:=congrArg (λx:Eg=>x.2.2) (XX (l:=l) (fr:=h) (at0:=f) (d:=d) (s:=s) O);exact n);(first|rw[j]|simp only[j])<;>rfl) (by show _=BM [0,1,2,3,4,5,7,8] (Me s l h f d);unfold Me;have j:((DL s d (l,h,f)).1:List AV)=((QH s l h f d).1++[AV.mk 10 (9+d) ((l++[AV.mk 1 (9+d) s.count 0 0]).length:Int) 0 0]):=(congrArg Prod.fst (XX O));have o:((DL s d (l,h,f)).2.1:List Int)=((QH s l h f d).2.1++[f]):=(congrArg (λx:Eg=>x.2.1) (XX O));(first|rw[j,o]|simp only[j,o])<;>rfl)
      have q4:=eq_of_beq F;exact False.elim O
     have q3:=eq_of_beq E;exact False.elim O
    have S:=eq_of_beq L;exact False.elim O
   have R:=eq_of_beq H;exact False.elim O
  refine AM G (Ai 4 [0,1,3] (nN s.v l h (f+1) f 0 O O O Ab)) [0,1,2,3,4,5,6,7,8,41,42] (JD s [Pi f,.C (Ct s 2),Kr,.L 76 (D.N (l++AJ s.v 0)),.L 3 (D.C (h++Ac (AJ s.v 0).length f))]) (Iu f d []) λG=>B (B (AQ G AB [(27,A s.t)] λG=>BN (B (AQ G AB [(28,AC (s.t==1))] λG=>Cu G (λM T=>?_) λM T=>?_))))
  ·
   refine B (AQ G AB [(36,AC (s.t==5))] λG=>Cu G (λN q6=>?_) λN q6=>?_)
   ·
    refine B (AQ G AB [(48,AC (s.t==2))] λG=>Cu G (λh7 q7=>?_) λh7 q7=>?_)
    ·
     refine B (AQ G AB [(61,AC (s.t==3))] λG=>Cu G (λu Q=>?_) λu Q=>?_)
     · refine Aq (BL (B (Bi G AB [(10,A (9+d))] [BC ((9:Int)+d)] (BA O) λG=>B (AM G (Ai 6 [9,10] (Kl (l++AJ s.v 0) (h++Ac (AJ s.v 0).length f) (f+1) f 1 (9+d) s.count 0 0 O (by simp only[Az,FX,p];have:=m.2.2.2.2;simp only[Az]at this;omega))) [0,1,2,3,4,5,6,7,8,59,60] (JD s [Pi f,.C (Ct s 2),Kr,.L 76 (D.N (l++AJ s.v 0++[AV.mk 1 (9+d) s.count 0 0])),ZO s h f]) (Iu f d [(10,A (9+d))]) λG=>B (AQ G AB [(11,A ((l++AJ s.v 0++[AV.mk 1 (9+d) s.count 0 0]).length:Int))] λG=>B (CT G (Ai 5 [9,10,4] (y s.b (l++AJ s.v 0++[AV.mk 1 (9+d) s.count 0 0]) (h++Ac (AJ s.v 0).length f++[f]) (f+1) (d+1) Ab (by simp only[Az,BK,Bc];have:=m.2.2.2.2;simp only[Az]at this;omega) (by exact absurd (q.symm.trans (IK O)) ED) O O O O)) [0,1,2,3,4,5,6,8,51,52] (JD s [.C [.N 8,.N 9,A (TE s l h f d).2.2],Kr,.L 76 (D.N (TE s l h f d).1),.L 3 (D.C (TE s l h f d).2.1)]) [(3,.P 6 0),(6,.P 7 0),(7,A f),(10,A (9+d)),(11,A ((l++AJ s.v 0++[AV.mk 1 (9+d) s.count 0 0]).length:Int))] [BC (d+1)] (BA O) λG=>B (AM G (Ai 5 [8,9] (Kl ((AW s.b (d+1) (l++AJ s.v 0++[AV.mk 1 (9+d) s.count 0 0],h++Ac (AJ s.v 0).length f++[f],f+1)).1) ((AW s.b (d+1) (l++AJ s.v 0++[AV.mk 1 (9+d) s.count 0 0],h++Ac (AJ s.v 0).length f++[f],f+1)).2.1) ((AW s.b (d+1) (l++AJ s.v 0++[AV.mk 1 (9+d) s.count 0 0],h++Ac (AJ s.v 0).length f++[f],f+1)).2.2) f 10 (9+d) (((l++AJ s.v 0++[AV.mk 1 (9+d) s.count 0 0]).length:Int)) 0 0 (by exact absurd (q.symm.trans (IK O)) ED) (by exact absurd (q.symm.trans (IK O)) ED))) [0,1,2,3,4,5,7,50,51] (JD s [.C [.N 7,.N 8,A (TE s l h f d).2.2],.L 76 (D.N ((TE s l h f d).1++[AV.mk 10 (9+d) ((l++AJ s.v 0++[AV.mk 1 (9+d) s.count 0 0]).length:Int) 0 0])),.L 3 (D.C ((TE s l h f d).2.1++[f]))]) [(6,.P 6 0)] λG=>AT ?_)))))));exact Cr (.agg [.N 7,.N 8,A (AW s.b (d+1) (l++AJ s.v 0++[AV.mk 1 (9+d) s.count 0 0],h++Ac (AJ s.v 0).length f++[f],f+1)).2.2]) G [0,1,2,3,4,5,7,8] (by have j:((DL s d (l,h,f)).2.2:Int)=((AW s.b (d+1) (l++AJ s.v 0++[AV.mk 1 (9+d) s.count 0 0],h++Ac (AJ s.v 0).length f++[f],f+1)).2.2):=(by exact absurd (q.symm.trans (IK O)) ED);(first|rw[j]|simp only[j])<;>rfl) (by show _=BM [0,1,2,3,4,5,7,8] (Me s l h f d);unfold Me;have j:((DL s d (l,h,f)).1:List AV)=((AW s.b (d+1) (l++AJ s.v 0++[AV.mk 1 (9+d) s.count 0 0],h++Ac (AJ s.v 0).length f++[f],f+1)).1++[AV.mk 10 (9+d) ((l++AJ s.v 0++[AV.mk 1 (9+d) s.count 0 0]).length:Int) 0 0]):=(by exact absurd (q.symm.trans (IK O)) ED);have o:((DL s d (l,h,f)).2.1:List Int)=((AW s.b (d+1) (l++AJ s.v 0++[AV.mk 1 (9+d) s.count 0 0],h++Ac (AJ s.v 0).length f++[f],f+1)).2.1++[f]):=(by exact absurd (q.symm.trans (IK O)) ED);(first|rw[j,o]|simp only[j,o])<;>rfl)
     refine B (AQ G AB [(8,A ((l++AJ s.v 0).length:Int))] λG=>B (AM G (Ai 3 [9,10] (Kl (l++AJ s.v 0) (h++Ac (AJ s.v 0).length f) (f+1) f 9 0 0 0 0 O (by simp only[Az,FX,p];have:=m.2.2.2.2;simp only[Az]at this;omega))) [0,1,2,3,4,5,6,7,8,35,36] (JD s [Pi f,.C (Ct s 2),Kr,.L 76 (D.N (l++AJ s.v 0++[AV.mk 9 0 0 0 0])),ZO s h f]) (Iu f d [(8,A ((l++AJ s.v 0).length:Int))]) λG=>B (CT G (Ai 5 [9,10,4] (y s.b (l++AJ s.v 0++[AV.mk 9 0 0 0 0]) (h++Ac (AJ s.v 0).length f++[f]) (f+1) (d+1) Ab (by simp only[Az,BK,Bc];have:=m.2.2.2.2;simp only[Az]at this;omega) CY O O O O)) [0,1,2,3,4,5,6,7,8,51,52] (JD s [.C [.N 9,.N 10,A (IB s l h f d).2.2],.C (Ct s 2),Kr,.L 76 (D.N (IB s l h f d).1),.L 3 (D.C (IB s l h f d).2.1)]) (Iu f d [(8,A ((l++AJ s.v 0).length:Int))]) [BC (d+1)] (BA O) λG=>B (AQ G AB [(9,A ((IB s l h f d).1.length:Int))] λG=>B (AM G (Ai 3 [9,10] (Kl ((AW s.b (d+1) (l++AJ s.v 0++[AV.mk 9 0 0 0 0],h++Ac (AJ s.v 0).length f++[f],f+1)).1) ((AW s.b (d+1) (l++AJ s.v 0++[AV.mk 9 0 0 0 0],h++Ac (AJ s.v 0).length f++[f],f+1)).2.1) ((AW s.b (d+1) (l++AJ s.v 0++[AV.mk 9 0 0 0 0],h++Ac (AJ s.v 0).length f++[f],f+1)).2.2) f 8 0 0 0 0 (by have n:=Jn s.b (d+1) (l++AJ s.v 0++[⟨9,0,0,0,0⟩],h++Ac (AJ s.v 0).length f++[f],f+1);have u:=Mg s.b;simp only[Az,BK,Bc,FX,p]at n ⊢;omega) (by have n:=Jn s.b (d+1) (l++AJ s.v 0++[⟨9,0,0,0,0⟩],h++Ac (AJ s.v 0).length f++[f],f+1);have u:=Mg s.b;simp only[Az,BK,Bc,FX,p]at n ⊢;omega))) [0,1,2,3,4,5,6,7,8,35,36] (JD s [.C [.N 9,.N 10,A (IB s l h f d).2.2],.C (Ct s 2),Kr,.L 76 (D.N ((IB s l h f d).1++[AV.mk 8 0 0 0 0])),.L 3 (D.C ((IB s l h f d).2.1++[f]))]) (Iu f d [(8,A ((l++AJ s.v 0).length:Int)),(9,A ((IB s l h f d).1.length:Int))]) λG=>B (CT G AB (AH 11) (JD s [.C [.N 9,.N 10,A (IB s l h f d).2.2],.C (Ct s 2),Kr,.L 76 (D.N (((IB s l h f d).1++[AV.mk 8 0 0 0 0]).set (l++AJ s.v 0).length (AV.mk (((IB s l h f d).1++[AV.mk 8 0 0 0 0]).getD (l++AJ s.v 0).length K).op (((IB s l h f d).1++[AV.mk 8 0 0 0 0]).getD (l++AJ s.v 0).length K).a (((IB s l h f d).1++[AV.mk 8 0 0 0 0]).length:Int) (((IB s l h f d).1++[AV.mk 8 0 0 0 0]).getD (l++AJ s.v 0).length K).c (((IB s l h f d).1++[AV.mk 8 0 0 0 0]).getD (l++AJ s.v 0).length K).d))),.L 3 (D.C ((IB s l h f d).2.1++[f]))]) (Iu f d [(9,A ((IB s l h f d).1.length:Int))]) [(0:Int)<=((l++AJ s.v (0:Int)).length:Int),((l++AJ s.v (0:Int)).length:Int)<(((AW s.b (d+1) (l++AJ s.v (0:Int)++[AV.mk (9:Int) (0:Int) (0:Int) (0:Int) (0:Int)],h++Ac (AJ s.v (0:Int)).length f++[f],f+1)).1++[AV.mk (8:Int) (0:Int) (0:Int) (0:Int) (0:Int)]).length:Int),(l++AJ s.v (0:Int)).length<((AW s.b (d+1) (l++AJ s.v (0:Int)++[AV.mk (9:Int) (0:Int) (0:Int) (0:Int) (0:Int)],h++Ac (AJ s.v (0:Int)).length f++[f],f+1)).1++[AV.mk (8:Int) (0:Int) (0:Int) (0:Int) (0:Int)]).length] ⟨O,(by simp only[Ly,Az,BK,Bc];omega),(by simp only[Ly,Az,BK,Bc];omega),Ay⟩ λG=>?_))))))
     refine Ec (B (CT G (Ai 5 [9,10,5] (y s.e (((AW s.b (d+1) (l++AJ s.v 0++[AV.mk 9 0 0 0 0],h++Ac (AJ s.v 0).length f++[f],f+1)).1++[AV.mk 8 0 0 0 0]).set (l++AJ s.v 0).length (AV.mk (((AW s.b (d+1) (l++AJ s.v 0++[AV.mk 9 0 0 0 0],h++Ac (AJ s.v 0).length f++[f],f+1)).1++[AV.mk 8 0 0 0 0]).getD (l++AJ s.v 0).length K).op (((AW s.b (d+1) (l++AJ s.v 0++[AV.mk 9 0 0 0 0],h++Ac (AJ s.v 0).length f++[f],f+1)).1++[AV.mk 8 0 0 0 0]).getD (l++AJ s.v 0).length K).a (((AW s.b (d+1) (l++AJ s.v 0++[AV.mk 9 0 0 0 0],h++Ac (AJ s.v 0).length f++[f],f+1)).1++[AV.mk 8 0 0 0 0]).length:Int) (((AW s.b (d+1) (l++AJ s.v 0++[AV.mk 9 0 0 0 0],h++Ac (AJ s.v 0).length f++[f],f+1)).1++[AV.mk 8 0 0 0 0]).getD (l++AJ s.v 0).length K).c (((AW s.b (d+1) (l++AJ s.v 0++[AV.mk 9 0 0 0 0],h++Ac (AJ s.v 0).length f++[f],f+1)).1++[AV.mk 8 0 0 0 0]).getD (l++AJ s.v 0).length K).d)) ((AW s.b (d+1) (l++AJ s.v 0++[AV.mk 9 0 0 0 0],h++Ac (AJ s.v 0).length f++[f],f+1)).2.1++[f]) ((AW s.b (d+1) (l++AJ s.v 0++[AV.mk 9 0 0 0 0],h++Ac (AJ s.v 0).length f++[f],f+1)).2.2) (d+1) Ab (by have n:=Jn s.b (d+1) (l++AJ s.v 0++[⟨9,0,0,0,0⟩],h++Ac (AJ s.v 0).length f++[f],f+1);have u:=Mg s.b;simp only[Az,BK,Bc,FX,GP,p]at n ⊢;omega) (by have n:=Jn s.b (d+1) (l++AJ s.v 0++[⟨9,0,0,0,0⟩],h++Ac (AJ s.v 0).length f++[f],f+1);have u:=Mg s.b;simp only[Az,BK,Bc,FX,GP,p]at n ⊢;omega) O O (by have n:=QB s.b (d+1) (l++AJ s.v 0++[⟨9,0,0,0,0⟩],h++Ac (AJ s.v 0).length f++[f],f+1);simp only at n;omega) (by have n:=QB s.b (d+1) (l++AJ s.v 0++[⟨9,0,0,0,0⟩],h++Ac (AJ s.v 0).length f++[f],f+1);simp only at n;omega))) [0,1,2,3,4,5,6,7,8,51,52] (JD s [.C [.N 9,.N 10,A (LQ s l h f d).2.2],.C (Ct s 2),Kr,.L 76 (D.N (LQ s l h f d).1),.L 3 (D.C (LQ s l h f d).2.1)]) (Iu f d [(9,A ((IB s l h f d).1.length:Int))]) [BC (d+1)] (BA O) λG=>B (CT G AB (AH 11) (JD s [.C [.N 9,.N 10,A (LQ s l h f d).2.2],.C (Ct s 2),Kr,rY s l h f d,.L 3 (D.C (LQ s l h f d).2.1)]) (Iu f d []) [(0:Int)<=((AW s.b (d+1) (l++AJ s.v (0:Int)++[AV.mk (9:Int) (0:Int) (0:Int) (0:Int) (0:Int)],h++Ac (AJ s.v (0:Int)).length f++[f],f+1)).1.length:Int),((AW s.b (d+1) (l++AJ s.v (0:Int)++[AV.mk (9:Int) (0:Int) (0:Int) (0:Int) (0:Int)],h++Ac (AJ s.v (0:Int)).length f++[f],f+1)).1.length:Int)<((AW s.e (d+1) (((AW s.b (d+1) (l++AJ s.v (0:Int)++[AV.mk (9:Int) (0:Int) (0:Int) (0:Int) (0:Int)],h++Ac (AJ s.v (0:Int)).length f++[f],f+1)).1++[AV.mk (8:Int) (0:Int) (0:Int) (0:Int) (0:Int)]).set (l++AJ s.v (0:Int)).length (AV.mk (((AW s.b (d+1) (l++AJ s.v (0:Int)++[AV.mk (9:Int) (0:Int) (0:Int) (0:Int) (0:Int)],h++Ac (AJ s.v (0:Int)).length f++[f],f+1)).1++[AV.mk (8:Int) (0:Int) (0:Int) (0:Int) (0:Int)]).getD (l++AJ s.v (0:Int)).length K).op (((AW s.b (d+1) (l++AJ s.v (0:Int)++[AV.mk (9:Int) (0:Int) (0:Int) (0:Int) (0:Int)],h++Ac (AJ s.v (0:Int)).length f++[f],f+1)).1++[AV.mk (8:Int) (0:Int) (0:Int) (0:Int) (0:Int)]).getD (l++AJ s.v (0:Int)).length K).a (((AW s.b (d+1) (l++AJ s.v (0:Int)++[AV.mk (9:Int) (0:Int) (0:Int) (0:Int) (0:Int)],h++Ac (AJ s.v (0:Int)).length f++[f],f+1)).1++[AV.mk (8:Int) (0:Int) (0:Int) (0:Int) (0:Int)]).length:Int) (((AW s.b (d+1) (l++AJ s.v (0:Int)++[AV.mk (9:Int) (0:Int) (0:Int) (0:Int) (0:Int)],h++Ac (AJ s.v (0:Int)).length f++[f],f+1)).1++[AV.mk (8:Int) (0:Int) (0:Int) (0:Int) (0:Int)]).getD (l++AJ s.v (0:Int)).length K).c (((AW s.b (d+1) (l++AJ s.v (0:Int)++[AV.mk (9:Int) (0:Int) (0:Int) (0:Int) (0:Int)],h++Ac (AJ s.v (0:Int)).length f++[f],f+1)).1++[AV.mk (8:Int) (0:Int) (0:Int) (0:Int) (0:Int)]).getD (l++AJ s.v (0:Int)).length K).d),(AW s.b (d+1) (l++AJ s.v (0:Int)++[AV.mk (9:Int) (0:Int) (0:Int) (0:Int) (0:Int)],h++Ac (AJ s.v (0:Int)).length f++[f],f+1)).2.1++[f],(AW s.b (d+1) (l++AJ s.v (0:Int)++[AV.mk (9:Int) (0:Int) (0:Int) (0:Int) (0:Int)],h++Ac (AJ s.v (0:Int)).length f++[f],f+1)).2.2)).1.length:Int),(AW s.b (d+1) (l++AJ s.v (0:Int)++[AV.mk (9:Int) (0:Int) (0:Int) (0:Int) (0:Int)],h++Ac (AJ s.v (0:Int)).length f++[f],f+1)).1.length<(AW s.e (d+1) (((AW s.b (d+1) (l++AJ s.v (0:Int)++[AV.mk (9:Int) (0:Int) (0:Int) (0:Int) (0:Int)],h++Ac (AJ s.v (0:Int)).length f++[f],f+1)).1++[AV.mk (8:Int) (0:Int) (0:Int) (0:Int) (0:Int)]).set (l++AJ s.v (0:Int)).length (AV.mk (((AW s.b (d+1) (l++AJ s.v (0:Int)++[AV.mk (9:Int) (0:Int) (0:Int) (0:Int) (0:Int)],h++Ac (AJ s.v (0:Int)).length f++[f],f+1)).1++[AV.mk (8:Int) (0:Int) (0:Int) (0:Int) (0:Int)]).getD (l++AJ s.v (0:Int)).length K).op (((AW s.b (d+1) (l++AJ s.v (0:Int)++[AV.mk (9:Int) (0:Int) (0:Int) (0:Int) (0:Int)],h++Ac (AJ s.v (0:Int)).length f++[f],f+1)).1++[AV.mk (8:Int) (0:Int) (0:Int) (0:Int) (0:Int)]).getD (l++AJ s.v (0:Int)).length K).a (((AW s.b (d+1) (l++AJ s.v (0:Int)++[AV.mk (9:Int) (0:Int) (0:Int) (0:Int) (0:Int)],h++Ac (AJ s.v (0:Int)).length f++[f],f+1)).1++[AV.mk (8:Int) (0:Int) (0:Int) (0:Int) (0:Int)]).length:Int) (((AW s.b (d+1) (l++AJ s.v (0:Int)++[AV.mk (9:Int) (0:Int) (0:Int) (0:Int) (0:Int)],h++Ac (AJ s.v (0:Int)).length f++[f],f+1)).1++[AV.mk (8:Int) (0:Int) (0:Int) (0:Int) (0:Int)]).getD (l++AJ s.v (0:Int)).length K).c (((AW s.b (d+1) (l++AJ s.v (0:Int)++[AV.mk (9:Int) (0:Int) (0:Int) (0:Int) (0:Int)],h++Ac (AJ s.v (0:Int)).length f++[f],f+1)).1++[AV.mk (8:Int) (0:Int) (0:Int) (0:Int) (0:Int)]).getD (l++AJ s.v (0:Int)).length K).d),(AW s.b (d+1) (l++AJ s.v (0:Int)++[AV.mk (9:Int) (0:Int) (0:Int) (0:Int) (0:Int)],h++Ac (AJ s.v (0:Int)).length f++[f],f+1)).2.1++[f],(AW s.b (d+1) (l++AJ s.v (0:Int)++[AV.mk (9:Int) (0:Int) (0:Int) (0:Int) (0:Int)],h++Ac (AJ s.v (0:Int)).length f++[f],f+1)).2.2)).1.length] ⟨O,(by simp only[Ly,GP,Az,BK,Bc];omega),(by simp only[Ly,GP,Az,BK,Bc];omega),Ay⟩ λG=>?_)))
     refine Ec (B (AM G AB (AH 11) (JD s [.C [.N 9,.N 10,A (LQ s l h f d).2.2],.C (Ct s 2),.C [.N 9,.N 10,A (LQ s l h f d).2.2],rY s l h f d,.L 3 (D.C (LQ s l h f d).2.1)]) (Iu f d []) λG=>AT (Cg (Ar ?_))));exact Cr (.agg [.N 9,.N 10,A (AW s.e (d+1) (((AW s.b (d+1) (l++AJ s.v 0++[AV.mk 9 0 0 0 0],h++Ac (AJ s.v 0).length f++[f],f+1)).1++[AV.mk 8 0 0 0 0]).set (l++AJ s.v 0).length (AV.mk (((AW s.b (d+1) (l++AJ s.v 0++[AV.mk 9 0 0 0 0],h++Ac (AJ s.v 0).length f++[f],f+1)).1++[AV.mk 8 0 0 0 0]).getD (l++AJ s.v 0).length K).op (((AW s.b (d+1) (l++AJ s.v 0++[AV.mk 9 0 0 0 0],h++Ac (AJ s.v 0).length f++[f],f+1)).1++[AV.mk 8 0 0 0 0]).getD (l++AJ s.v 0).length K).a (((AW s.b (d+1) (l++AJ s.v 0++[AV.mk 9 0 0 0 0],h++Ac (AJ s.v 0).length f++[f],f+1)).1++[AV.mk 8 0 0 0 0]).length:Int) (((AW s.b (d+1) (l++AJ s.v 0++[AV.mk 9 0 0 0 0],h++Ac (AJ s.v 0).length f++[f],f+1)).1++[AV.mk 8 0 0 0 0]).getD (l++AJ s.v 0).length K).c (((AW s.b (d+1) (l++AJ s.v 0++[AV.mk 9 0 0 0 0],h++Ac (AJ s.v 0).length f++[f],f+1)).1++[AV.mk 8 0 0 0 0]).getD (l++AJ s.v 0).length K).d),(AW s.b (d+1) (l++AJ s.v 0++[AV.mk 9 0 0 0 0],h++Ac (AJ s.v 0).length f++[f],f+1)).2.1++[f],(AW s.b (d+1) (l++AJ s.v 0++[AV.mk 9 0 0 0 0],h++Ac (AJ s.v 0).length f++[f],f+1)).2.2)).2.2]) G [0,1,2,3,4,5,9,10] (by have j:((DL s d (l,h,f)).2.2:Int)=((AW s.e (d+1) (((AW s.b (d+1) (l++AJ s.v 0++[AV.mk 9 0 0 0 0],h++Ac (AJ s.v 0).length f++[f],f+1)).1++[AV.mk 8 0 0 0 0]).set (l++AJ s.v 0).length (AV.mk (((AW s.b (d+1) (l++AJ s.v 0++[AV.mk 9 0 0 0 0],h++Ac (AJ s.v 0).length f++[f],f+1)).1++[AV.mk 8 0 0 0 0]).getD (l++AJ s.v 0).length K).op (((AW s.b (d+1) (l++AJ s.v 0++[AV.mk 9 0 0 0 0],h++Ac (AJ s.v 0).length f++[f],f+1)).1++[AV.mk 8 0 0 0 0]).getD (l++AJ s.v 0).length K).a (((AW s.b (d+1) (l++AJ s.v 0++[AV.mk 9 0 0 0 0],h++Ac (AJ s.v 0).length f++[f],f+1)).1++[AV.mk 8 0 0 0 0]).length:Int) (((AW s.b (d+1) (l++AJ s.v 0++[AV.mk 9 0 0 0 0],h++Ac (AJ s.v 0).length f++[f],f+1)).1++[AV.mk 8 0 0 0 0]).getD (l++AJ s.v 0).length K).c (((AW s.b (d+1) (l++AJ s.v 0++[AV.mk 9 0 0 0 0],h++Ac (AJ s.v 0).length f++[f],f+1)).1++[AV.mk 8 0 0 0 0]).getD (l++AJ s.v 0).length K).d),(AW s.b (d+1) (l++AJ s.v 0++[AV.mk 9 0 0 0 0],h++Ac (AJ s.v 0).length f++[f],f+1)).2.1++[f],(AW s.b (d+1) (l++AJ s.v 0++[AV.mk 9 0 0 0 0],h++Ac (AJ s.v 0).length f++[f],f+1)).2.2)).2.2):=(by have n:=congrArg (λx:Eg=>x.2.2) (gC (l:=l) (fr:=h) (at0:=f) (d:=d) (s:=s) O);exact n);(first|rw[j]|simp only[j])<;>rfl) (by show _=BM [0,1,2,3,4,5,9,10] (Me s l h f d);unfold Me;have n:=gC (l:=l) (fr:=h) (at0:=f) (d:=d) (s:=s) O;rw[n]<;>rfl)
    refine B (AM G (Ai 4 [9,10,2] (nN s.i (l++AJ s.v 0) (h++Ac (AJ s.v 0).length f) (f+1) f 1 O O O (by simp only[Az,FX,p];done))) [0,1,2,3,4,5,6,7,8,43,44] (JD s [Pi f,.C (Ct s 2),Kr,.L 76 (D.N (l++AJ s.v 0++AJ s.i 1)),.L 3 (D.C (h++Ac (AJ s.v 0).length f++Ac (AJ s.i 1).length f))]) (Iu f d []) λG=>B (AM G (Ai 5 [9,10] (Kl (l++AJ s.v 0++AJ s.i 1) (h++Ac (AJ s.v 0).length f++Ac (AJ s.i 1).length f) (f+1) f 5 s.g 1 0 0 O (by simp only[Az,FX,p];have:=m.2.2.2.2;simp only[Az]at this;omega))) [0,1,2,3,4,5,6,7,8,9,10,51,52] (JD s [Pi f,.C (Ct s 2),.C [.N 11,.N 12,A (f+1)],.E,.E,.L 76 (D.N (l++AJ s.v 0++AJ s.i 1++[AV.mk 5 s.g 1 0 0])),.L 3 (D.C (h++Ac (AJ s.v 0).length f++Ac (AJ s.i 1).length f++[f]))]) (Iu f d []) λG=>AT (Cg (Ar ?_))));exact Cr (.agg [.N 11,.N 12,A (f+1)]) G [0,1,2,3,4,5,11,12] (by have j:((DL s d (l,h,f)).2.2:Int)=(f+1):=(congrArg (λx:Eg=>x.2.2) (YC O));(first|rw[j]|simp only[j])<;>rfl) (by show _=BM [0,1,2,3,4,5,11,12] (Me s l h f d);unfold Me;have j:((DL s d (l,h,f)).1:List AV)=(l++AJ s.v 0++AJ s.i 1++[AV.mk 5 s.g 1 0 0]):=(congrArg Prod.fst (YC O));have o:((DL s d (l,h,f)).2.1:List Int)=(h++Ac (AJ s.v 0).length f++Ac (AJ s.i 1).length f++[f]):=(congrArg (λx:Eg=>x.2.1) (YC O));(first|rw[j,o]|simp only[j,o])<;>rfl)
   refine B (AM G (Ai 3 [9,10] (Kl (l++AJ s.v 0) (h++Ac (AJ s.v 0).length f) (f+1) f 11 0 0 0 0 O (by simp only[Az,FX,p];have:=m.2.2.2.2;simp only[Az]at this;omega))) [0,1,2,3,4,5,6,7,8,35,36] (JD s [Pi f,.C (Ct s 2),Kr,.L 76 (D.N (l++AJ s.v 0++[AV.mk 11 0 0 0 0])),ZO s h f]) (Iu f d []) λG=>B (AM G (Ai 5 [9,10] (Kl (l++AJ s.v 0++[AV.mk 11 0 0 0 0]) (h++Ac (AJ s.v 0).length f++[f]) (f+1) f 3 s.g 0 0 0 (by simp only[Az,BK,Bc];have:=m.2.2.2.2;simp only[Az]at this;omega) (by simp only[Az,FX,BK,Bc,p];have:=m.2.2.2.2;simp only[Az]at this;omega))) [0,1,2,3,4,5,6,7,8,9,10,51,52] (JD s [Pi f,.C (Ct s 2),.C [.N 11,.N 12,A (f+1)],.E,.E,.L 76 (D.N (l++AJ s.v 0++[AV.mk 11 0 0 0 0]++[AV.mk 3 s.g 0 0 0])),.L 3 (D.C (h++Ac (AJ s.v 0).length f++[f]++[f]))]) (Iu f d []) λG=>AT (Cg (Ar ?_))));exact Cr (.agg [.N 11,.N 12,A (f+1)]) G [0,1,2,3,4,5,11,12] (by have j:((DL s d (l,h,f)).2.2:Int)=(f+1):=(congrArg (λx:Eg=>x.2.2) (XP O));(first|rw[j]|simp only[j])<;>rfl) (by show _=BM [0,1,2,3,4,5,11,12] (Me s l h f d);unfold Me;have j:((DL s d (l,h,f)).1:List AV)=(l++AJ s.v 0++[AV.mk 11 0 0 0 0]++[AV.mk 3 s.g 0 0 0]):=(congrArg Prod.fst (XP O));have o:((DL s d (l,h,f)).2.1:List Int)=(h++Ac (AJ s.v 0).length f++[f]++[f]):=(congrArg (λx:Eg=>x.2.1) (XP O));(first|rw[j,o]|simp only[j,o])<;>rfl)
  refine B (AM G (Ai 5 [9,10] (Kl (l++AJ s.v 0) (h++Ac (AJ s.v 0).length f) (f+1) f 3 s.g 0 0 0 O (by simp only[Az,FX,p];have:=m.2.2.2.2;simp only[Az]at this;omega))) [0,1,2,3,4,5,6,7,8,9,10,51,52] (JD s [Pi f,.C (Ct s 2),.C [.N 11,.N 12,A (f+1)],.E,.E,.L 76 (D.N (l++AJ s.v 0++[AV.mk 3 s.g 0 0 0])),ZO s h f]) (Iu f d []) λG=>AT (Cg (Ar ?_)));exact Cr (.agg [.N 11,.N 12,A (f+1)]) G [0,1,2,3,4,5,11,12] (by have j:((DL s d (l,h,f)).2.2:Int)=(f+1):=(congrArg (λx:Eg=>x.2.2) (YG O));(first|rw[j]|simp only[j])<;>rfl) (by show _=BM [0,1,2,3,4,5,11,12] (Me s l h f d);unfold Me;have j:((DL s d (l,h,f)).1:List AV)=(l++AJ s.v 0++[AV.mk 3 s.g 0 0 0]):=(congrArg Prod.fst (YG O));have o:((DL s d (l,h,f)).2.1:List Int)=(h++Ac (AJ s.v 0).length f++[f]):=(congrArg (λx:Eg=>x.2.1) (YG O));(first|rw[j,o]|simp only[j,o])<;>rfl)
section
variable{ss:List AG}{k:Nat}{d:Int}{l:List AV}{fr:List Int}{at0:Int}
theorem uq(a:k<J ss):Ah (ss.take k)+(1+CS (ss.getD k K))<=Ah ss:=by
 have b:=LI (ss.take (k+1)) (ss.drop (k+1));rw[List.take_append_drop,Gr _ _ a,LI, <-DU (d:=K) a]at b;simp only[Ah]at b;omega
theorem j6(a:k<J ss):CP (ss.take k)+Gn (ss.getD k K)<=CP ss:=by
 have b:=XQ (ss.take (k+1)) (ss.drop (k+1));rw[List.take_append_drop,Gr _ _ a,XQ, <-DU (d:=K) a]at b;simp only[CP]at b;omega
theorem Yn(b:J l+4*Ah ss<=5000000)(a:k<J ss):(AW (ss.take k) d (l,fr,at0)).1.length+(4+4*CS (ss.getD k K))<=5000000:=by
 have c:=uq a;have e:=Mg (ss.take k);rw[Ly];simp only;omega
theorem jJ(a:J fr=J l):(AW (ss.take k) d (l,fr,at0)).2.1.length=(AW (ss.take k) d (l,fr,at0)).1.length:=by
 have h:=Jn (ss.take k) d (l,fr,at0);simp only at h;omega
theorem jF(a:0<=at0):0<=(AW (ss.take k) d (l,fr,at0)).2.2:=by
 have h:=QB (ss.take k) d (l,fr,at0);simp only at h;omega
theorem dT(c:at0+CP ss<=5000000)(a:k<J ss):(AW (ss.take k) d (l,fr,at0)).2.2+Gn (ss.getD k K)<=5000000:=by
 have h:=QB (ss.take k) d (l,fr,at0);have b:=j6 a;simp only at h;omega
theorem pX(a:k<J ss):(AW (ss.take (k+1)) d (l,fr,at0)).1=(DL (ss.getD k K) d (AW (ss.take k) d (l,fr,at0))).1:=by rw[QP a]
theorem mJ(a:k<J ss):(AW (ss.take (k+1)) d (l,fr,at0)).2.1=(DL (ss.getD k K) d (AW (ss.take k) d (l,fr,at0))).2.1:=by rw[QP a]
theorem me(a:k<J ss):(AW (ss.take (k+1)) d (l,fr,at0)).2.2=(DL (ss.getD k K) d (AW (ss.take k) d (l,fr,at0))).2.2:=by rw[QP a]
theorem Ok(a:J ss<=k)(x):AW ss d x=AW (ss.take k) d x:=by rw[Dq a]
end
theorem rf(c)(h)(o:∀s,s∈c->∀(l:List AV) (e:List Int) (b d:Int),J l+(4+4*CS s)<=5000000->J e=J l->0<=d->d<=h->0<=b->b+Gn s<=5000000->AN.ok prog (fL l e b s d))
  (l) (e) (b d:Int) (p:J l+4*Ah c<=5000000) (n:J e=J l) (v:0<=d) (u:d<=h) (q:0<=b) (t:b+CP c<=5000000):AN.ok prog (kM l e b c d):=by
 refine BP 22 func145 [.L 76 (D.N l),.L 3 (D.C e),AE c] [(0,.agg [.N 0,.N 1,A b]),(1,.N 2),(2,A d)] λG=>?_;have y:=Km c;refine B (AM G AB [0,1,2,3,11] [.L 76 (D.N l),.L 3 (D.C e),AE c,.C [.N 0,.N 1,A b],.C [AK,AK,A 0]] [(1,.N 2),(2,A d),(3,.P 3 0),(6,.P 4 0)] λG=>B (B (BS G AB [(1,.N 2),(2,A d),(3,.P 3 0),(6,.P 4 0),(7,A 0)] λG=>BN ?_)));obtain⟨j,G⟩:=G.shift 0 5 [.E,.L 3 (D.C e),AE c,.C [.N 5,.N 1,A b],.C [AK,AK,A 0],.L 76 (D.N l)] [(1,.N 2),(2,A d),(3,.P 3 0),(6,.P 4 0),(7,A 0)];obtain⟨j,G⟩:=G.shift 1 6 [.E,.E,AE c,.C [.N 5,.N 6,A b],.C [AK,AK,A 0],.L 76 (D.N l),.L 3 (D.C e)] [(1,.N 2),(2,A d),(3,.P 3 0),(6,.P 4 0),(7,A 0)];refine DR (h:=Nat) (λk=>k<=J c) (λk=>J c-k) (λk=>[.E,.E,AE c,.C [.N 5,.N 6,A (AW (c.take k) d (l,e,b)).2.2],.C [AK,AK,A 0],.L 76 (.N (AW (c.take k) d (l,e,b)).1),.L 3 (.C (AW (c.take k) d (l,e,b)).2.1)]) (λk=>[(1,.N 2),(2,A d),(3,.P 3 0),(6,.P 4 0),(7,A k)]) 0 O (Ap.at G _ _) ?_;clear G;intro k j a w z G;replace G:=Ap.at G [.E,.E,AE c,.C [.N 5,.N 6,A (AW (Ae k c) d (l,e,b)).2.2],.C [AK,AK,A 0],.L 76 (D.N (AW (Ae k c) d (l,e,b)).1),.L 3 (D.C (AW (Ae k c) d (l,e,b)).2.1)] [(1,.N 2),(2,A d),(3,.P 3 0),(6,.P 4 0),(7,A k)];refine B (B (AQ G AB [(11,AC (Y ((k:Int)<J c)))] λG=>DZ G (λr m=>?_) λr m=>?_))
 ·refine wp_exit (Bd (Bd (DG (B (AM G AB [0,1,2,4,5,6] [.E,.E,AE c,.C [.N 4,.N 5,A (AW (Ae k c) d (l,e,b)).2.2],.L 76 (D.N (AW (Ae k c) d (l,e,b)).1),.L 3 (D.C (AW (Ae k c) d (l,e,b)).2.1)] [(6,.P 3 0)] λG=>AT ?_)))));exact Cr (.agg [.N 4,.N 5,A (AW (Ae k c) d (l,e,b)).2.2]) G [0,1,2,4,5] (by have f:((AW c d (l,e,b)).2.2:Int)=((AW (Ae k c) d (l,e,b)).2.2):=(congrArg (λx:Eg=>x.2.2) (Ok O _));(first|rw[f]|simp only[f])<;>rfl) (by show _=BM [0,1,2,4,5] [.E,.E,AE c,.L 76 (D.N (AW c d (l,e,b)).1),.L 3 (D.C (AW c d (l,e,b)).2.1)];have f:((AW c d (l,e,b)).1:List AV)=((AW (Ae k c) d (l,e,b)).1):=(congrArg Prod.fst (Ok O _));have g:((AW c d (l,e,b)).2.1:List Int)=((AW (Ae k c) d (l,e,b)).2.1):=(congrArg (λx:Eg=>x.2.1) (Ok O _));(first|rw[f,g]|simp only[f,g])<;>rfl)
 refine Aq (B (BN (Df G (Ai 6 [5,6,39,40,41,42] (o (c.getD k K) (QS O) ((AW (Ae k c) d (l,e,b)).1) ((AW (Ae k c) d (l,e,b)).2.1) ((AW (Ae k c) d (l,e,b)).2.2) d (Yn p O) (jJ n) Ab Ab (jF q) (dT t O))) [0,0,0,6,14,0,63,127] [0,1,2,3,4,55,56] [.E,.E,AE c,.C [.N 5,.N 6,A (DL (c.getD k K) d (AW (Ae k c) d (l,e,b))).2.2],.C [AK,AK,A 0],.L 76 (D.N (DL (c.getD k K) d (AW (Ae k c) d (l,e,b))).1),.L 3 (D.C (DL (c.getD k K) d (AW (Ae k c) d (l,e,b))).2.1)] [(1,.N 2),(2,A d),(3,.P 3 0),(6,.P 4 0),(7,A k)] (CD k k (J c) []) (CE O Ay) λG=>BL (Bi G AB [(7,A ((k:Int)+1))] [BC ((k:Int)+1)] (BA O) λG=>?_))));exact Ce G (k+1) O O (AH 7) (by have f:((AW (Ae (k+1) c) d (l,e,b)).2.2:Int)=((DL (c.getD k K) d (AW (Ae k c) d (l,e,b))).2.2):=(me O);have g:((AW (Ae (k+1) c) d (l,e,b)).1:List AV)=((DL (c.getD k K) d (AW (Ae k c) d (l,e,b))).1):=(pX O);have i:((AW (Ae (k+1) c) d (l,e,b)).2.1:List Int)=((DL (c.getD k K) d (AW (Ae k c) d (l,e,b))).2.1):=(mJ O);(first|rw[f,g,i]|simp only[f,g,i])<;>rfl)
theorem vX(o p):∀(f:Nat) (e:List AG) (l:List AV) (c:List Int) (b d:Int),e.all (Ax o p f)=V->J l+4*Ah e<=5000000->J c=J l->0<=d->d+f<=100->0<=b->b+CP e<=5000000->AN.ok prog (kM l c b e d):=by
 intro f;induction f with
 | zero =>
  intro e l c b d g j i k v m n
  have M:e=[]:=by
   cases e with
   |nil=>rfl
   |cons a r=>simp[Ax]at g
  subst M;exact rf [] 100 (λs g=>by cases g) l c b d j i k O m n
 |succ f z=>
  intro e l c b d g j i k v m n;refine rf e (100-(f+1)) (λs N l c b d w x L P y F=>?_) l c b d j i k O m n
  have h:=Bt.1 g s N;rw[Lu,Aj,Aj]at h;exact qj o p f s h.1 h.2.1 h.2.2 (λH l c b d D G q C t u E=>z H l c b d D G q C t u E) l c b d w x L O y F
abbrev Yb:AI:=.C [.v (.slice I 0 0),.v (.slice I 0 0),A 0]
theorem yR(b)(g)(n:∀s,s∈b->∀(l:List AV) (h:List Int) (e d:Int),J l+(4+4*CS s)<=5000000->J h=J l->0<=d->d<=g->0<=e->e+Gn s<=5000000->AN.ok prog (fL l h e s d))
  (d) (o:([]:List AV).length+4*Ah b<=5000000) (t:0<=d) (r:d<=g) (q:(0:Int)+CP b<=5000000):AN.ok prog ⟨145,[.agg [AK,AK,A 0],.N 0,A d],[AE b],[AE b,GJ (AW b d ([],[],0)).1,Ej (AW b d ([],[],0)).2.1],.agg [.N 1,.N 2,A (AW b d ([],[],0)).2.2]⟩:=by
 refine BP 22 func145 [AE b] [(0,.agg [AK,AK,A 0]),(1,.N 0),(2,A d)] λG=>?_;have u:=Km b;refine B (AM G AB [0,1,9] [AE b,Yb,Yb] [(1,.N 0),(2,A d),(3,.P 1 0),(6,.P 2 0)] λG=>B (B (BS G AB [(1,.N 0),(2,A d),(3,.P 1 0),(6,.P 2 0),(7,A 0)] λG=>BN ?_)));obtain⟨j,G⟩:=G.nil 3 76 (.N []) 5 [AE b,.C [.N 3,AK,A 0],.C [AK,AK,A 0]] [(1,.N 0),(2,A d),(3,.P 1 0),(6,.P 2 0),(7,A 0)];obtain⟨j,G⟩:=G.nil 4 3 (.C []) 1 [AE b,.C [.N 3,.N 4,A 0],.C [AK,AK,A 0],.L 76 (D.N [])] [(1,.N 0),(2,A d),(3,.P 1 0),(6,.P 2 0),(7,A 0)];refine DR (h:=Nat) (λk=>k<=J b) (λk=>J b-k) (λk=>[AE b,.C [.N 3,.N 4,A (AW (b.take k) d ([],[],0)).2.2],.C [AK,AK,A 0],.L 76 (.N (AW (b.take k) d ([],[],0)).1),.L 3 (.C (AW (b.take k) d ([],[],0)).2.1)]) (λk=>[(1,.N 0),(2,A d),(3,.P 1 0),(6,.P 2 0),(7,A k)]) 0 O (Ap.at G _ _) ?_;clear G;intro k j a w v G;replace G:=Ap.at G [AE b,.C [.N 3,.N 4,A (AW (Ae k b) d ([],[],0)).2.2],Yb,.L 76 (D.N (AW (Ae k b) d ([],[],0)).1),.L 3 (D.C (AW (Ae k b) d ([],[],0)).2.1)] [(1,.N 0),(2,A d),(3,.P 1 0),(6,.P 2 0),(7,A k)];refine B (B (AQ G AB [(11,AC (Y ((k:Int)<J b)))] λG=>DZ G (λp m=>?_) λp m=>?_))
 ·refine wp_exit (Bd (Bd (DG (B (AM G AB [0,2,3,4] [AE b,.C [.N 2,.N 3,A (AW (Ae k b) d ([],[],0)).2.2],.L 76 (D.N (AW (Ae k b) d ([],[],0)).1),.L 3 (D.C (AW (Ae k b) d ([],[],0)).2.1)] [(6,.P 1 0)] λG=>AT ?_)))));exact Cr (.agg [.N 2,.N 3,A (AW (Ae k b) d ([],[],0)).2.2]) G [0,2,3] (by have c:((AW b d ([],[],0)).2.2:Int)=((AW (Ae k b) d ([],[],0)).2.2):=(congrArg (λx:Eg=>x.2.2) (Ok O _));(first|rw[c]|simp only[c])<;>rfl) (by show _=BM [0,2,3] [AE b,.L 76 (D.N (AW b d ([],[],0)).1),.L 3 (D.C (AW b d ([],[],0)).2.1)];have c:((AW b d ([],[],0)).1:List AV)=((AW (Ae k b) d ([],[],0)).1):=(congrArg Prod.fst (Ok O _));have f:((AW b d ([],[],0)).2.1:List Int)=((AW (Ae k b) d ([],[],0)).2.1):=(congrArg (λx:Eg=>x.2.1) (Ok O _));(first|rw[c,f]|simp only[c,f])<;>rfl)
 refine Aq (B (BN (Df G (Ai 6 [3,4,37,38,39,40] (n (b.getD k K) (QS O) ((AW (Ae k b) d ([],[],0)).1) ((AW (Ae k b) d ([],[],0)).2.1) ((AW (Ae k b) d ([],[],0)).2.2) d (Yn o O) (jJ rfl) Ab Ab (jF (Int.le_refl 0)) (dT q O))) [0,0,0,6,14,0,63,127] [0,1,2,53,54] [AE b,.C [.N 3,.N 4,A (DL (b.getD k K) d (AW (Ae k b) d ([],[],0))).2.2],Yb,.L 76 (D.N (DL (b.getD k K) d (AW (Ae k b) d ([],[],0))).1),.L 3 (D.C (DL (b.getD k K) d (AW (Ae k b) d ([],[],0))).2.1)] [(1,.N 0),(2,A d),(3,.P 1 0),(6,.P 2 0),(7,A k)] (CD k k (J b) []) (CE O Ay) λG=>BL (Bi G AB [(7,A ((k:Int)+1))] [BC ((k:Int)+1)] (BA O) λG=>?_))));exact Ce G (k+1) O O (AH 5) (by have c:((AW (Ae (k+1) b) d ([],[],0)).2.2:Int)=((DL (b.getD k K) d (AW (Ae k b) d ([],[],0))).2.2):=(me O);have f:((AW (Ae (k+1) b) d ([],[],0)).1:List AV)=((DL (b.getD k K) d (AW (Ae k b) d ([],[],0))).1):=(pX O);have i:((AW (Ae (k+1) b) d ([],[],0)).2.1:List Int)=((DL (b.getD k K) d (AW (Ae k b) d ([],[],0))).2.1):=(mJ O);(first|rw[c,f,i]|simp only[c,f,i])<;>rfl)
theorem p8(p)(e:BZ p=V)(x:Ah p.b<=1048576):AN.ok prog ⟨145,[.agg [AK,AK,A 0],.N 0,A 0],[AE p.b],[AE p.b,GJ (AW p.b 0 ([],[],0)).1,Ej (AW p.b 0 ([],[],0)).2.1],.agg [.N 1,.N 2,A (AW p.b 0 ([],[],0)).2.2]⟩:=by
 simp only[BZ,MG,Aj,decide_eq_true_eq]at e;refine yR p.b 95 (λs w l c a d j k v y m r=>?_) 0 (by simp only[Bc];omega) O O (by have:=VN p.b;omega)
 have h:=Bt.1 e.1.2 s w;rw[Lu,Aj,Aj]at h;exact qj _ _ 4 s h.1 h.2.1 h.2.2 (λu l c a d o t f n g i q=>vX _ _ 4 u l c a d o t f n g i q) l c a d j k v O m r
def Ed(p:BE):Eg:=((AW p.b 0 ([],[],0)).1++[⟨13,0,0,0,0⟩],(AW p.b 0 ([],[],0)).2.1++[-1],(AW p.b 0 ([],[],0)).2.2)
def EQ(p:BE):Bool:=BZ p&&Y ((Ed p).1.length<=400)
def Ez(p:BE):Eg:=if EQ p=V then Ed p else([],[],0)
theorem QT{p}(h:BZ p=U):EQ p=false:=by unfold EQ;rw[h];rfl
theorem RN{p}(h:¬(Ed p).1.length<=400):EQ p=false:=by unfold EQ;rw[decide_eq_false h,Bool.and_false]
theorem RZ{p}(a:BZ p=V)(h:(Ed p).1.length<=400):EQ p=true:=by unfold EQ;rw[decide_eq_true h,a];rfl
theorem Pm{p}(h:EQ p=U):Ez p=([],[],0):=by unfold Ez;rw[h];rfl
theorem gD{p}(h:EQ p=V):Ez p=Ed p:=by unfold Ez;rw[h];rfl
theorem ox(p:BE)(c:Ah p.b<=1048576):(AW p.b 0 ([],[],0)).1.length<=5000000/\(AW p.b 0 ([],[],0)).2.1.length<=5000000:=by
 have h:=Jn p.b 0 ([],[],0);have a:=Mg p.b;simp only[Bc]at h;omega
abbrev UE(p:BE):List AI:=[W p.s,W p.r,AE p.b,.L 76 (D.N (Ez p).1),.L 3 (D.C (Ez p).2.1)]
abbrev ac(p:BE)(a:List AI):List AI:=.L 76 (D.N ((AW p.b 0 ([],[],0)).1++[AV.mk 13 0 0 0 0]))::.L 3 (D.C ((AW p.b 0 ([],[],0)).2.1++[-1]))::a
theorem g1(p)(f:Ah p.b<=1048576):AN.ok prog ⟨93,[Ao 0],Be p,Be p++[GJ (Ez p).1,Ej (Ez p).2.1],.T [.agg [.N 3,.N 4,A (Ez p).2.2],AC (EQ p)]⟩:=by
  refine BP 22 func93 [W p.s,W p.r,AE p.b] [(0,Ao 0)] λG=>?_;have i:=ox p f;refine B (AM G AB [0,1,2,3,11] [W p.s,W p.r,AE p.b,.C (Al 0),.C [AK,AK,A 0]] [(1,.P 3 0),(2,.P 4 0),(3,AC U)] λG=>B (B (AQ G (Ai 1 [0,1,2] (Zf p Ab)) [(7,.v (.bool !BZ p))] λG=>?_)));cases d:(!BZ p)
  ·
   have j:(BZ p)=true:=(Eq.mp (Cp _) d);refine Bo G _ d (Aq (B (AM G (Ai 3 [2] (p8 p Ab Ab)) [0,1,2,4,29,30,37] [W p.s,W p.r,AE p.b,.C [AK,AK,A 0],.L 76 (D.N (AW p.b 0 ([],[],0)).1),.L 3 (D.C (AW p.b 0 ([],[],0)).2.1),.C [.N 4,.N 5,A (AW p.b 0 ([],[],0)).2.2]] [(2,.P 3 0),(3,AC U),(4,.P 6 0)] λG=>B (AM G (Ai 2 [4,5] (Kl ((AW p.b 0 ([],[],0)).1) ((AW p.b 0 ([],[],0)).2.1) ((AW p.b 0 ([],[],0)).2.2) (-1) 13 0 0 0 0 O O)) [0,1,2,3,6,23,24] (W p.s::W p.r::AE p.b::.C [AK,AK,A 0]::.C [.N 5,.N 6,A (AW p.b 0 ([],[],0)).2.2]::(ac p [])) [(2,.P 3 0),(3,AC U),(4,.P 4 0)] λG=>B (B (AQ G AB [(19,AC (Y ((((AW p.b 0 ([],[],0)).1++[AV.mk 13 0 0 0 0]).length:Int)>400)))] λG=>DZ G (λg h=>?_) λg h=>?_))))))
   · refine Aq (B (AM G AB [0,1,2,3,5,6] (W p.s::W p.r::AE p.b::.C [.N 4,.N 5,A (AW p.b 0 ([],[],0)).2.2]::(ac p [])) [(2,.P 3 0),(3,AC V)] λG=>AT ?_));exact Cr (.T [.agg [.N 4,.N 5,A (AW p.b 0 ([],[],0)).2.2],AC V]) G [0,1,2,4,5] (by have c:((Ez p).2.2:Int)=((AW p.b 0 ([],[],0)).2.2):=(by rw[gD (RZ AY (by simp only[Ed];omega))];rfl);have a:(EQ p:Bool)=(V):=(RZ AY (by simp only[Ed];omega));(first|rw[c,a]|simp only[c,a])<;>rfl) (by show _=BM [0,1,2,4,5] (UE p);unfold UE;rw[gD (RZ AY (by simp only[Ed];omega))]<;>rfl)
   refine B (BS G AB [(2,.P 3 0),(3,AC U),(4,.P 4 0)] λG=>AT (Ar ?_));obtain⟨e,G⟩:=G.nil 7 76 (.N []) 5 (W p.s::W p.r::AE p.b::.C [.N 7,AK,A 0]::.C [.N 5,.N 6,A (AW p.b 0 ([],[],0)).2.2]::(ac p [])) [(2,.P 3 0),(3,AC U),(4,.P 4 0)];obtain⟨e,G⟩:=G.nil 8 3 (.C []) 1 (W p.s::W p.r::AE p.b::.C [.N 7,.N 8,A 0]::.C [.N 5,.N 6,A (AW p.b 0 ([],[],0)).2.2]::(ac p [.L 76 (D.N [])])) [(2,.P 3 0),(3,AC U),(4,.P 4 0)];exact Cr (.T [.agg [.N 7,.N 8,A 0],AC U]) G [0,1,2,7,8] (by have c:((Ez p).2.2:Int)=(0):=(by rw[Pm (RN (by simp only[Ed];omega))];done);have a:(EQ p:Bool)=(U):=(RN (by simp only[Ed];omega));(first|rw[c,a]|simp only[c,a])<;>rfl) (by show _=BM [0,1,2,7,8] (UE p);unfold UE;rw[Pm (RN (by simp only[Ed];omega))]<;>rfl)
  have j:(BZ p)=false:=(Eq.mp (Cn _) d);refine Ba G _ d (B (BS G AB [(1,.P 3 0),(2,.P 4 0),(3,AC U)] λG=>AT (Ar ?_)));obtain⟨e,G⟩:=G.nil 5 76 (.N []) 5 [W p.s,W p.r,AE p.b,.C (Al 0),.C [.N 5,AK,A 0]] [(1,.P 3 0),(2,.P 4 0),(3,AC U)];obtain⟨e,G⟩:=G.nil 6 3 (.C []) 1 [W p.s,W p.r,AE p.b,.C (Al 0),.C [.N 5,.N 6,A 0],.L 76 (D.N [])] [(1,.P 3 0),(2,.P 4 0),(3,AC U)];exact Cr (.T [.agg [.N 5,.N 6,A 0],AC U]) G [0,1,2,5,6] (by have c:((Ez p).2.2:Int)=(0):=(by rw[Pm (QT AY)];done);have a:(EQ p:Bool)=(U):=(QT AY);(first|rw[c,a]|simp only[c,a])<;>rfl) (by show _=BM [0,1,2,5,6] (UE p);unfold UE;rw[Pm (QT AY)]<;>rfl)
def Tc(e f:Nat)(L:Int)(x:AV):Prop:=
 (x.op=1/\(0<=x.a/\x.a<=13)/\(0<=x.b/\x.b<=255)/\x.c=0/\x.d=0)\/
 (x.op=2/\(0<=x.a/\x.a<=13)/\(0<=x.b/\x.b<e)/\x.c=0/\x.d=0)\/
 (x.op=3/\(0<=x.a/\x.a<e)/\(0<=x.b/\x.b<=13)/\x.c=0/\x.d=0)\/
 (x.op=4/\(0<=x.a/\x.a<=13)/\(0<=x.b/\x.b<f)/\(0<=x.c/\x.c<=13)/\x.d=0)\/
 (x.op=5/\(0<=x.a/\x.a<f)/\(0<=x.b/\x.b<=13)/\(0<=x.c/\x.c<=13)/\x.d=0)\/
 (x.op=6/\(0<=x.a/\x.a<=13)/\(4<=x.b/\x.b<=10)/\(0<=x.c/\x.c<=13)/\(0<=x.d/\x.d<=13))\/
 (x.op=7/\(0<=x.a/\x.a<=13)/\(0<=x.b/\x.b<=13)/\(0<=x.c/\x.c<=13)/\(0<=x.d/\x.d<=13))\/
 (x.op=8/\(0<=x.a/\x.a<L)/\x.b=0/\x.c=0/\x.d=0)\/
 (x.op=9/\(0<=x.a/\x.a<=13)/\(0<=x.b/\x.b<L)/\x.c=0/\x.d=0)\/
 (x.op=10/\(0<=x.a/\x.a<=13)/\(0<=x.b/\x.b<L)/\x.c=0/\x.d=0)\/
 (x.op=11/\(0<=x.a/\x.a<=13)/\x.b=0/\x.c=0/\x.d=0)
def KT(a b:Nat)(L:Int)(l:List AV):Prop:=∀x∈l,Tc a b L x
theorem ZQ{d e}{L}{a b}(h:KT d e L a)(k:KT d e L b):KT d e L (a++b):=by
 intro x c;rcases DQ.1 c with c|c
 ·exact h x c
 exact k x c
theorem QZ{b d}{L}{a}(h:Tc b d L a):KT b d L [a]:=by
 intro x c;rw[Dw]at c;subst c;exact h
theorem B8{c}{x}(h:Tc (J c.s) (J c.r) (J c.l) x):Ev c x=true:=by
 obtain⟨i,a,b,f,d⟩:=x;unfold Tc at h;simp only at h
 rcases h with h|h|h|h|h|h|h|h|h|h|h<;>obtain⟨rfl,e,k,g,j⟩:=h<;>
  ·simp only[Ev,FU,LV,OQ,Aj,decide_eq_true_eq]
   simp;omega
theorem gF{a c n}{k v}{b}(h:As a c (n+1) ⟨k,v,b⟩=V):(J b)=Cm k/\0<=v/\v<GN a c k/\b.all (As a c n)=true:=by
 rw[As]at h;simp only[Aj,En,decide_eq_true_eq]at h;exact⟨h.1.1.1.1,h.1.1.1.2,h.1.1.2,h.1.2⟩
theorem nz{a d n}{k t c}{i v}{b e}(h:Ax a d (n+1) ⟨k,t,i,v,c,b,e⟩=V):
    (k=4->1<=c/\c<=3/\b.all (Ax a d n)=V)/\(k=1\/k=5->(0<=t/\t<a)/\CQ a d v=V)/\(k=2->(0<=t/\t<d)/\CQ a d i=V/\CQ a d v=V)/\
    (k≠4->k≠1->k≠5->k≠2->CQ a d v=V/\b.all (Ax a d n)=V/\e.all (Ax a d n)=V):=by
  rw[Ax,Aj]at h;obtain⟨f,h⟩:=h
  have f:(if(k=3\/k=4)then
    Y (t=0)&&(if k=4 then Y (J e=0)&&Y (1<=c)&&Y (c<=3)&&Dy i&&Dy v
      else Y (c=0)&&Dy i)
  else Y (J b=0)&&Y (J e=0)&&Y (c=0)&&(Y (k=2)||Dy i))=true:=f
  have h:(if k=1\/k=5 then Y (0<=t)&&Y (t<a)&&CQ a d v
     else if k=2 then Y (0<=t)&&Y (t<d)&&CQ a d i&&Eo i&&CQ a d v
     else if k=3 then CQ a d v&&b.all (Ax a d n)&&e.all (Ax a d n)
     else if k=4 then b.all (Ax a d n)
     else U)=true:=h
  refine⟨?_,?_,?_,?_⟩
  · rintro rfl
    rw[AZ (.inr rfl),AZ rfl]at f;rw[AO O,AO O,AO O,AZ rfl]at h;simp only[Aj,decide_eq_true_eq]at f;exact⟨f.2.1.1.1.2,f.2.1.1.2,h⟩
  · intro g
    rw[AZ g]at h;simp only[Aj,decide_eq_true_eq]at h;exact⟨h.1,h.2⟩
  · rintro rfl
    rw[AO O,AZ rfl]at h;simp only[Aj,decide_eq_true_eq]at h;exact⟨h.1.1.1,h.1.1.2,h.2⟩
  intro m o l j;rw[AO O,AO j]at h;split at h
  · simp only[Aj]at h
    exact⟨h.1.1,h.1.2,h.2⟩
  exact absurd h ED
mutual
theorem mF(nv na:Nat)(L:Int):∀(n:Nat) (e:AF) (r:Int),As nv na n e=V->0<=r->r+2*n<=13->KT nv na L (AJ e r)
 |0,e,r,h,_,_=>by simp[As]at h
 | n + 1, ⟨k, v, ks⟩, r, h, h0, h1 => by
  obtain⟨ha,hv0,hv1,hk⟩:=gF h;simp only[Cm,GN]at ha hv1;rw[AJ];split
  ·rename_i hk1
   subst hk1;simp at hv1;exact QZ (.inl ⟨rfl,by constructor<;>simp only<;>omega,by constructor<;>simp only<;>omega,rfl,rfl⟩)
  split
  ·rename_i hk2
   subst hk2;simp at hv1;exact QZ (.inr (.inl ⟨rfl,by constructor<;>simp only<;>omega,by constructor<;>simp only<;>omega,rfl,rfl⟩))
  rename_i k1 k2
  have hlen:J ks<=3/\(3<=k/\k<=11):=by
   rw[AO O]at ha;split at ha
   ·omega
   split at ha
   ·omega
   split at ha<;>omega
  refine ZQ (rp nv na L n ks r hk h0 O) (QZ ?_);unfold Lp;split
  ·rename_i hk3
   subst hk3;simp at hv1;exact .inr (.inr (.inr (.inl ⟨rfl,by constructor<;>simp only<;>omega,by constructor<;>simp only<;>omega,by constructor<;>simp only<;>omega,rfl⟩)))
  split
  ·exact .inr (.inr (.inr (.inr (.inr (.inr (.inl ⟨rfl,by constructor<;>simp only<;>omega,by constructor<;>simp only<;>omega,by constructor<;>simp only<;>omega,by constructor<;>simp only<;>omega⟩))))))
  exact .inr (.inr (.inr (.inr (.inr (.inl ⟨rfl,by constructor<;>simp only<;>omega,by constructor<;>simp only<;>omega,by constructor<;>simp only<;>omega,by constructor<;>simp only<;>omega⟩)))))
termination_by n _=>(n,0)
theorem rp(nv na:Nat)(L:Int):∀(n:Nat) (ks:List AF) (r:Int),ks.all (As nv na n)=V->0<=r->r+J ks+2*n<=14->KT nv na L (Bg ks r)
 |_,[],r,_,_,_=>by rw[Bg];intro x hx;cases hx
 |n,e::t,r,h,h0,h1=>by
  simp only[IS,Aj]at h;simp only[BK]at h1;rw[Bg];exact ZQ (mF nv na L n e r h.1 h0 O) (rp nv na L n t (r+1) h.2 O O)
termination_by n ks=>(n,J ks+1)
end
theorem VQ{a b}{e}(L r)(h:CQ a b e=V)(c:0<=r)(d:r<=1):KT a b L (AJ e r):=by
 unfold CQ at h;rw[Aj]at h;exact mF a b L 5 e r h.1 c O
def Gz(b c:Nat)(L:Int)(x y:Eg):Prop:=∃a,y.1=x.1++a/\KT b c L a
theorem Gz.refl{a c}{L}(x):Gz a c L x x:=⟨[],At,λx b=>by cases b⟩
theorem Gz.trans{c d}{L}{x y z}(h:Gz c d L x y)(k:Gz c d L y z):Gz c d L x z:=by
 obtain⟨a,e,g⟩:=h;obtain⟨b,f,i⟩:=k;exact⟨a++b,by rw[f,e,Fj],ZQ g i⟩
theorem Gz.add{a b}{L}{x}{n}{c}(h:KT a b L c):Gz a b L x (CN x n c):=⟨c,rfl,h⟩
theorem Gz.add1{a b}{L}{x}{n m}{c}(h:KT a b L c):Gz a b L x (CN (x.1,x.2.1,m) n c):=⟨c,rfl,h⟩
theorem uD{a b}{n}{k}(c:k=J a):Jv (a++⟨9,0,0,0,0⟩::b) k n=a++⟨9,0,n,0,0⟩::b:=by
 subst c;simp[Jv,Bu,List.set_append_right]
theorem sp{a b}{n}{k}(c:k=J a):OJ (a++⟨8,0,0,0,0⟩::b) k n=a++⟨8,n,0,0,0⟩::b:=by
 subst c;simp[OJ,Bu,List.set_append_right]
theorem Yi:(0:Int)<=0/\(0:Int)<=13:=ED
theorem D6:(0:Int)<=1/\(1:Int)<=13:=ED
theorem Bs{c e}{L a b}(d:0<=a/\a<=13)(f:0<=b/\b<=255):KT c e L [⟨1,a,b,0,0⟩]:=QZ (.inl ⟨rfl,d,f,rfl,rfl⟩)
theorem CZ{b d:Nat}{L a:Int}(c:0<=a/\a<b):KT b d L [⟨3,a,0,0,0⟩]:=QZ (.inr (.inr (.inl ⟨rfl,c,Yi,rfl,rfl⟩)))
theorem gd{c b:Nat}{L a:Int}(d:0<=a/\a<b):KT c b L [⟨5,a,1,0,0⟩]:=QZ (.inr (.inr (.inr (.inr (.inl ⟨rfl,d,D6,Yi,rfl⟩)))))
theorem ec{b d}{L a}(c:0<=a/\a<L):Tc b d L ⟨8,a,0,0,0⟩:=.inr (.inr (.inr (.inr (.inr (.inr (.inr (.inl ⟨rfl,c,rfl,rfl,rfl⟩)))))))
theorem kT{a d}{L b}(c:0<=b/\b<L):Tc a d L ⟨9,0,b,0,0⟩:=.inr (.inr (.inr (.inr (.inr (.inr (.inr (.inr (.inl ⟨rfl,Yi,c,rfl,rfl⟩))))))))
theorem fZ{c e}{L a b}(f:0<=a/\a<=13)(d:0<=b/\b<L):KT c e L [⟨10,a,b,0,0⟩]:=QZ (.inr (.inr (.inr (.inr (.inr (.inr (.inr (.inr (.inr (.inl ⟨rfl,f,d,rfl,rfl⟩))))))))))
theorem wS{b a}{L}:KT b a L [⟨11,0,0,0,0⟩]:=QZ (.inr (.inr (.inr (.inr (.inr (.inr (.inr (.inr (.inr (.inr ⟨rfl,Yi,rfl,rfl,rfl⟩))))))))))
mutual
theorem N1(nv na:Nat)(L:Int):∀(n:Nat) (s:AG) (d:Int) (x:Eg),Ax nv na n s=V->0<=d->d+n<=5->((DL s d x).1.length:Int)<L->Gz nv na L x (DL s d x)
 |0,s,d,x,h,_,_,_=>by simp[Ax]at h
 | n + 1, ⟨k, t, i, v, c, b, e⟩, d, x, h, h0, h1, hL => by
  have hl:=(lD ⟨k,t,i,v,c,b,e⟩ d x).1;obtain⟨p4,p1,p2,p3⟩:=nz h;rw[DL]at hL ⊢;split
  ·rename_i hk
   subst hk;obtain⟨c1,c2,h⟩:=p4 rfl;rw[AZ rfl]at hL;simp only[CN,Az,BK,Bc]at hL;have a1:Gz nv na L x (CN (x.1,x.2.1,x.2.2+1) x.2.2 [⟨1,9+d,c,0,0⟩]):=Gz.add1 (Bs O O);have a2:=XC nv na L n b (d+1) (CN (x.1,x.2.1,x.2.2+1) x.2.2 [⟨1,9+d,c,0,0⟩]) h O O (by simp only[CN,BK,Bc];omega)
   have l2:=(Jn b (d+1) (CN (x.1,x.2.1,x.2.2+1) x.2.2 [⟨1,9+d,c,0,0⟩])).1;simp only[CN,Az,BK,Bc]at l2;exact(a1.trans a2).trans (Gz.add (fZ O O))
  rename_i k4
  rw[AO k4]at hL;split
  ·rename_i hk
   obtain⟨h1,h2⟩:=p1 (.inl hk);exact(Gz.add1 (VQ L 0 h2 O O)).trans (Gz.add (CZ h1))
  rename_i k1
  rw[AO k1]at hL;split
  ·rename_i hk
   obtain⟨h1,h2⟩:=p1 (.inr hk);exact((Gz.add1 (VQ L 0 h2 O O)).trans (Gz.add wS)).trans (Gz.add (CZ h1))
  rename_i k5
  rw[AO k5]at hL;split
  ·rename_i hk
   obtain⟨h1,h2,h3⟩:=p2 hk;exact((Gz.add1 (VQ L 0 h3 O O)).trans (Gz.add (VQ L 1 h2 O O))).trans (Gz.add (gd h1))
  rename_i k2
  rw[AO k2]at hL;have h:=p3 k4 k1 k5 k2;simp only at hL ⊢;have a1:Gz nv na L x (CN (x.1,x.2.1,x.2.2+1) x.2.2 (AJ v 0)):=Gz.add1 (VQ L 0 h.1 O O);generalize CN (x.1,x.2.1,x.2.2+1) x.2.2 (AJ v 0)=y at hL a1 ⊢;have a2:=XC nv na L n b (d+1) (CN y x.2.2 [⟨9,0,0,0,0⟩]) h.2.1 O O;generalize AW b (d+1) (CN y x.2.2 [⟨9,0,0,0,0⟩])=z at hL a2 ⊢;have l3:=(Jn e (d+1) (Jv (CN z x.2.2 [⟨8,0,0,0,0⟩]).1 (J y.1) ((CN z x.2.2 [⟨8,0,0,0,0⟩]).1.length:Int),(CN z x.2.2 [⟨8,0,0,0,0⟩]).2)).1;have a3:=XC nv na L n e (d+1) (Jv (CN z x.2.2 [⟨8,0,0,0,0⟩]).1 (J y.1) ((CN z x.2.2 [⟨8,0,0,0,0⟩]).1.length:Int),(CN z x.2.2 [⟨8,0,0,0,0⟩]).2) h.2.2 O O;generalize AW e (d+1) (Jv (CN z x.2.2 [⟨8,0,0,0,0⟩]).1 (J y.1) ((CN z x.2.2 [⟨8,0,0,0,0⟩]).1.length:Int),(CN z x.2.2 [⟨8,0,0,0,0⟩]).2)=u at hL l3 a3 ⊢;simp only[CN,Jv,OJ,GP,Az,BK,Bc]at hL l3;obtain⟨b2,e2,q2⟩:=a2 O;obtain⟨b3,e3,q3⟩:=a3 O;obtain⟨b1,e1,q1⟩:=a1;simp only[CN,Fj,List.singleton_append]at e2 e3;rw[e2]at e3;simp only[Fj,IR]at e3;rw[uD rfl]at e3
  have e4:u.1=(y.1++⟨9,0,((z.1++[(⟨8,0,0,0,0⟩:AV)]).length:Int),0,0⟩::b2)++⟨8,0,0,0,0⟩::b3:=by
   rw[e3,e2];simp
  refine⟨b1++⟨9,0,((z.1++[(⟨8,0,0,0,0⟩:AV)]).length:Int),0,0⟩::(b2++⟨8,(J u.1:Int),0,0,0⟩::b3),?_,?_⟩
  ·show OJ u.1 _ _=_
   rw[show OJ u.1 ((CN z x.2.2 [⟨8,0,0,0,0⟩]).1.length-1) (J u.1:Int)=OJ ((y.1++⟨9,0,((z.1++[(⟨8,0,0,0,0⟩:AV)]).length:Int),0,0⟩::b2)++⟨8,0,0,0,0⟩::b3) ((CN z x.2.2 [⟨8,0,0,0,0⟩]).1.length-1) (J u.1:Int)from by rw[<-e4]]
   rw[sp (by simp only[CN,e2,Az,BK,Bc];omega),e1]
   simp only[Fj,IR]
  refine ZQ q1 ?_;intro w hw;simp only[Eb,DQ]at hw;rcases hw with rfl|hw|rfl|hw
  ·refine kT ⟨O,?_⟩
   simp only[Az,BK,Bc];omega
  ·exact q2 w hw
  ·exact ec ⟨O,O⟩
  exact q3 w hw
termination_by n _=>(n,0)
theorem XC(nv na:Nat)(L:Int):∀(n:Nat) (ss:List AG) (d:Int) (x:Eg),ss.all (Ax nv na n)=V->0<=d->d+n<=5->((AW ss d x).1.length:Int)<L->Gz nv na L x (AW ss d x)
 |_,[],_,x,_,_,_,_=>by rw[AW];exact Gz.refl x
 |n,s::r,d,x,h,h0,h1,hL=>by
  simp only[IS,Aj]at h;rw[AW]at hL ⊢;have hl:=(Jn r d (DL s d x)).1;exact(N1 nv na L n s d x h.1 h0 h1 O).trans (XC nv na L n r d _ h.2 h0 h1 hL)
termination_by n ss=>(n,J ss+1)
end
theorem yJ{p}(h:BZ p=V):KT (J p.s) (J p.r) ((Ed p).1.length) (AW p.b 0 ([],[],0)).1:=by
 simp only[BZ,MG,Aj,decide_eq_true_eq]at h;obtain⟨d,c,a⟩:=XC (J p.s) (J p.r) ((Ed p).1.length:Int) 5 p.b 0 ([],[],0) h.1.2 O O (by simp only[Ed,Az,BK,Bc];omega)
 rw[c];exact a
theorem rl{p}(h:EQ p=V):Bp ⟨p.s,p.r,(Ed p).1⟩=true:=by
 unfold EQ at h;simp only[Aj,decide_eq_true_eq]at h;have b:=yJ h.1;have d:Gf p.s p.r=true:=by have:=h.1;simp only[BZ,Aj]at this;exact this.1.1
 simp only[Bp,Aj,decide_eq_true_eq];refine⟨⟨⟨⟨d,?_⟩,h.2⟩,?_⟩,?_⟩
 ·simp[Ed]
 ·rw[Bt]
  intro x a;simp only[Ed,DQ,Dw]at a;rcases a with a|rfl
  ·exact B8 (c:=⟨p.s,p.r,(Ed p).1⟩) (b x a)
  simp[Ev,FU,LV]
 simp[Pj,Ed]
mutual
def NO:AG->Int->Nat->List AV
 |⟨k,t,i,v,c,b,e⟩,d,o=>
  if k=4 then⟨1,9+d,c,0,0⟩::(Gs b (d+1) (o+1)++[⟨10,9+d,((o+1:Nat):Int),0,0⟩])
  else if k=1 then AJ v 0++[⟨3,t,0,0,0⟩]
  else if k=5 then AJ v 0++[⟨11,0,0,0,0⟩,⟨3,t,0,0,0⟩]
  else if k=2 then AJ v 0++AJ i 1++[⟨5,t,1,0,0⟩]
  else AJ v 0++⟨9,0,((o+(AJ v 0).length+1+DY b+1:Nat):Int),0,0⟩::(Gs b (d+1) (o+(AJ v 0).length+1)++⟨8,((o+(AJ v 0).length+1+DY b+1+DY e:Nat):Int),0,0,0⟩::Gs e (d+1) (o+(AJ v 0).length+1+DY b+1))
def Gs:List AG->Int->Nat->List AV
 |[],_,_=>[]
 |s::r,d,o=>NO s d o++Gs r d (o+Ib s)
end
mutual
theorem WB:∀(s:AG) (d:Int) (o:Nat),(NO s d o).length=Ib s
 |⟨k,t,i,v,c,b,e⟩,d,o=>by
  rw[NO,Ib];split
  ·simp only[BK,Az,Bc,Lx b];omega
  split
  ·simp
  split
  ·simp
  split
  ·simp;omega
  simp only[BK,Az,Lx b,Lx e];omega
theorem Lx:∀(ss:List AG) (d:Int) (o:Nat),(Gs ss d o).length=DY ss
 |[],_,_=>rfl
 |s::r,d,o=>by
  rw[Gs,DY,Az,WB s,Lx r]
end
mutual
theorem uQ:∀(s:AG) (d:Int) (x:Eg),(DL s d x).1=x.1++NO s d (J x.1)
 | ⟨k, t, i, v, c, b, e⟩, d, x => by
  rw[DL,NO];split
  ·simp only[CN]
   rw[TX b];simp
  split
  ·simp[CN]
  split
  ·simp[CN]
  split
  ·simp[CN]
  simp only;have e1:(CN (x.1,x.2.1,x.2.2+1) x.2.2 (AJ v 0)).1=x.1++AJ v 0:=rfl;generalize CN (x.1,x.2.1,x.2.2+1) x.2.2 (AJ v 0)=y at e1 ⊢;have e2:=TX b (d+1) (CN y x.2.2 [⟨9,0,0,0,0⟩]);generalize AW b (d+1) (CN y x.2.2 [⟨9,0,0,0,0⟩])=z at e2 ⊢;have e3:=TX e (d+1) (Jv (CN z x.2.2 [⟨8,0,0,0,0⟩]).1 (J y.1) ((CN z x.2.2 [⟨8,0,0,0,0⟩]).1.length:Int),(CN z x.2.2 [⟨8,0,0,0,0⟩]).2);generalize AW e (d+1) (Jv (CN z x.2.2 [⟨8,0,0,0,0⟩]).1 (J y.1) ((CN z x.2.2 [⟨8,0,0,0,0⟩]).1.length:Int),(CN z x.2.2 [⟨8,0,0,0,0⟩]).2)=u at e3 ⊢;have y1:J y.1=J x.1+(AJ v 0).length:=by rw[e1,Az]
  have e2':z.1=y.1++⟨9,0,0,0,0⟩::Gs b (d+1) (J y.1+1):=by
   rw[e2];simp[CN]
  have z1:J z.1=J x.1+(AJ v 0).length+1+DY b:=by rw[e2'];simp only[Az,BK,Lx,y1];omega
  have eP:∀N:Int,Jv (z.1++[⟨8,0,0,0,0⟩]) (J y.1) N=y.1++⟨9,0,N,0,0⟩::(Gs b (d+1) (J y.1+1)++[⟨8,0,0,0,0⟩]):=fun N=>by
   rw[e2',Fj,IR];exact uD rfl
  have e3:u.1=Jv (z.1++[⟨8,0,0,0,0⟩]) (J y.1) (((z.1++[(⟨8,0,0,0,0⟩:AV)]).length:Nat):Int)++Gs e (d+1) (Jv (z.1++[⟨8,0,0,0,0⟩]) (J y.1) (((z.1++[(⟨8,0,0,0,0⟩:AV)]).length:Nat):Int)).length:=e3;rw[eP]at e3;have hl:(z.1++[(⟨8,0,0,0,0⟩:AV)]).length=J x.1+(AJ v 0).length+1+DY b+1:=by rw[Az,z1];rfl
  have hl2:∀N:Int,(y.1++⟨9,0,N,0,0⟩::(Gs b (d+1) (J y.1+1)++[(⟨8,0,0,0,0⟩:AV)])).length=J x.1+(AJ v 0).length+1+DY b+1:=fun N=>by
   simp only[Az,BK,Bc,Lx,y1];omega
  rw[hl2,hl]at e3
  have e4:u.1=(y.1++⟨9,0,((J x.1+(AJ v 0).length+1+DY b+1:Nat):Int),0,0⟩::Gs b (d+1) (J y.1+1))++⟨8,0,0,0,0⟩::Gs e (d+1) (J x.1+(AJ v 0).length+1+DY b+1):=by
   rw[e3];simp only[Fj,IR,List.nil_append]
  have hu:J u.1=J x.1+(AJ v 0).length+1+DY b+1+DY e:=by
   rw[e4];simp only[Az,BK,Lx,y1];omega
  show OJ u.1 ((z.1++[(⟨8,0,0,0,0⟩:AV)]).length-1) (J u.1:Int)=_;rw[hu,hl,e4,sp (by simp only[Az,BK,Lx,y1];omega),y1,e1]
  simp only[Fj,IR]
theorem TX:∀(ss:List AG) (d:Int) (x:Eg),(AW ss d x).1=x.1++Gs ss d (J x.1)
 |[],_,x=>by rw[AW,Gs,II]
 |s::r,d,x=>by
  have h1:=uQ s d x;rw[AW,Gs,TX r,h1,Az,WB,Fj]
end
def Fm(b a:List Int)(e:AF):Int:=if e.t=2 then b.getD e.v.toNat 0 else if e.t=3 then a.getD e.v.toNat 0 else 0
def AL(c b:List Int):Nat->AF->Int
 |0,_=>0
 |d+1,e=>e.k.foldl (λa k=>AR a (AL c b d k)) (Fm c b e)
def CK(e b:List Int)(d:Nat)(x:Int)(c:List AF)(k:Nat):Int:=(c.take k).foldl (λa k=>AR a (AL e b d k)) x
theorem Mt{c a}{d k}{x}{b}(h:k<J b):CK c a d x b (k+1)=AR (CK c a d x b k) (AL c a d (b.getD k K)):=by
 unfold CK;rw[ND b k h,List.foldl_append,DU h];rfl
theorem MZ{b a}{d k}{x}{e}(h:J e.k<=k)(c:Fm b a e=x):AL b a (d+1) e=CK b a d x e.k k:=by
 unfold CK;rw[Dq h,AL,c]
section
variable{nv na d:Nat}{e:AF}
theorem jf(h:As nv na (d+1) e=V):En nv na e=true:=by simp only[As,Aj]at h;exact h.1.1
theorem Lw(h:As nv na (d+1) e=V)(k:e.t=2):0<=e.v/\e.v<nv/\e.v.toNat<nv:=by
 have:=jf h;simp[En,GN,k]at this;omega
theorem MU(h:As nv na (d+1) e=V)(k:e.t=3):0<=e.v/\e.v<na/\e.v.toNat<na:=by
 have:=jf h;simp[En,GN,k]at this;omega
theorem Jz{k}(h:As nv na (d+1) e=V)(a:k<J e.k):As nv na d (e.k.getD k K)=true:=by
 simp only[As,Aj]at h;rw[DU a];exact Bt.1 h.1.2 _ (EL a)
theorem Td(h:As nv na (d+1) e=V)(k:e.t=3):0<J e.k:=by
 have:=jf h;simp[En,Cm,k]at this;omega
end
theorem cr{x}(h:Af x=V):x=0\/x=1\/x=2\/x=3:=by simp[Af]at h;omega
theorem UX(l):AN.ok prog (CJ 82 [A l] [] (AC (Af l&&Y (l%2=1)))):=by
 refine BP 10 func82 [] [(0,A l)] λG=>?_;refine B (AQ G AB [(2,AC U)] λG=>B ?_);cases a:(Af l)
 ·refine AQ G (BH (AX 1 [] (Oq l) BG) (AS a Ag) [(3,0),(4,0),(5,0),(1006,0)]) [] λG=>AT ?_;exact Br G []
 refine AQ G (BH (AX 1 [] (Oq l) BG) (AS a Ag) [(3,0),(4,0),(5,0),(1006,0)]) [(2,AC (Lm l 1==1))] λG=>AT ?_;exact BU (Lm l 1==1) G [] (by rcases cr a with rfl|rfl|rfl|rfl<;>kernel_rfl)
theorem fX(l):AN.ok prog (CJ 113 [A l] [] (AC (Af l&&Y (l%2=1)))):=by
 refine BP 10 func113 [] [(0,A l)] λG=>?_;refine B (AQ G AB [(2,AC U)] λG=>B ?_);cases a:(Af l)
 ·refine AQ G (BH (AX 1 [] (aq l) BG) (AS a Ag) [(3,0),(4,0),(5,0),(1006,0)]) [] λG=>AT ?_;exact Br G []
 refine AQ G (BH (AX 1 [] (aq l) BG) (AS a Ag) [(3,0),(4,0),(5,0),(1006,0)]) [(2,AC (Lm l 1 !=0))] λG=>AT ?_;exact BU (Lm l 1 !=0) G [] (by rcases cr a with rfl|rfl|rfl|rfl<;>kernel_rfl)
theorem qG(l):AN.ok prog (CJ 200 [A l] [] (AC (Af l&&Y (l<=1)))):=by
 refine BP 10 func200 [] [(0,A l)] λG=>?_;refine B (AQ G AB [(2,AC U)] λG=>B ?_);cases a:(Af l)
 ·refine AQ G (BH (AX 1 [] (Oq l) BG) (AS a Ag) [(3,0),(4,0),(5,0),(1006,0)]) [] λG=>AT ?_;exact Br G []
 refine AQ G (BH (AX 1 [] (Oq l) BG) (AS a Ag) [(3,0),(4,0),(5,0),(1006,0)]) [(2,AC (Lm l 2==0))] λG=>AT ?_;exact BU (Lm l 2==0) G [] (by rcases cr a with rfl|rfl|rfl|rfl<;>kernel_rfl)
theorem lu(l):AN.ok prog (CJ 151 [A l] [] (AC (Af l&&Y (l<=1)))):=by
 refine BP 10 func151 [] [(0,A l)] λG=>?_;refine B (AQ G AB [(2,AC U)] λG=>B ?_);cases a:(Af l)
 ·refine AQ G (BH (AX 1 [] (aq l) BG) (AS a Ag) [(3,0),(4,0),(5,0),(1006,0)]) [] λG=>AT ?_;exact Br G []
 refine AQ G (BH (AX 1 [] (aq l) BG) (AS a Ag) [(3,0),(4,0),(5,0),(1006,0)]) [(2,AC (Lm l 2==0))] λG=>AT ?_;exact BU (Lm l 2==0) G [] (by rcases cr a with rfl|rfl|rfl|rfl<;>kernel_rfl)
theorem lQ(x y):AN.ok prog (CJ 199 [A x,A y] [] (AC (Af x&&Af y&&(AR x y==y)))):=by
  refine BP 18 func199 [] [(0,A x),(1,A y)] λG=>?_;refine B (AQ G AB [(4,AC U)] λG=>B ?_);cases a:(Af x)
  · refine AQ G (BH (AX 1 [] (Oq x) BG) (AS a (AS (b:=U) rfl Ag)) (Ad [(3,4,0),(1005,1005,0),(7,11,1),(1012,1012,1)])) [] λG=>AT ?_;exact Br G []
  cases c:(Af y)
  · refine AQ G (BH (AX 1 [] (Oq x) (AX 4 [] (Oq y) BG)) (AS a (AS c Ag)) (Ad [(3,4,0),(1005,1005,0),(7,11,1),(1012,1012,1)])) [] λG=>AT ?_;exact Br G []
  refine AQ G (BH (AX 1 [] (Oq x) (AX 4 [] (Oq y) BG)) (AS a (AS c Ag)) (Ad [(3,4,0),(1005,1005,0),(7,11,1),(1012,1012,1)])) [(4,AC (AR x y==y))] λG=>AT ?_;exact Br G []
theorem M6:∀x:Fin 4,∀y:Fin 4,(Ix x.val y.val==0)=(AR x.val y.val==y.val):=by decide+kernel
theorem Jm{x}(h:Af x=V):∃a:Fin 4,x=a.val:=by
 simp[Af]at h;exact⟨⟨x.toNat,O⟩,CY⟩
theorem qX{x y}(c:Af x=V)(d:Af y=V):(Ix x y==0)=(AR x y==y):=by
 obtain⟨a,rfl⟩:=Jm c;obtain⟨b,rfl⟩:=Jm d;exact M6 a b
theorem sT(x y):AN.ok prog (CJ 149 [A x,A y] [] (AC (Ix x y==0))):=by
 refine BP 9 func149 [] [(0,A x),(1,A y)] λG=>?_;refine B (AQ G AB [(4,AC U)] λG=>B (AQ G AB [(4,AC (Ix x y==0))] λG=>AT ?_));exact Br G []
theorem vw(p)(d)(j:∀e,As (J p.s) (J p.r) d e=V->AN.ok prog (CJ 139 [Ao 0,Dc e 3] (Be p++Em e) (A (AL p.s p.r d e))))
    (e) (c:As (J p.s) (J p.r) (d+1) e=V):AN.ok prog (CJ 139 [Ao 0,Dc e 3] (Be p++Em e) (A (AL p.s p.r (d+1) e))):=by
  refine BP 42 func139 [W p.s,W p.r,AE p.b,AP e.k] [(0,Ao 0),(1,Dc e 3)] λG=>?_;refine B (AM G AB [0,1,2,3,4,12] [W p.s,W p.r,AE p.b,AP e.k,.C (Al 0),.C (Bz e 3)] [(2,.P 4 0),(3,.P 5 0),(4,A 0)] λG=>B (AQ G AB [(5,A 0)] λG=>B (B (AQ G AB [(8,A e.t)] λG=>BN (B (AQ G AB [(9,AC (e.t==2))] λG=>Cu G (λy h=>?_) λy h=>?_))))))
  ·
   refine B (AQ G AB [(17,AC (e.t==3))] λG=>Cu G (λn i=>?_) λn i=>?_)
   ·
    refine Aq (BL (B (B (BS G AB [(2,.P 4 0),(3,.P 5 0),(4,A 0),(5,A 0),(6,A 0)] λG=>BN ?_))));refine DR (h:=Nat) (λk=>k<=J e.k) (λk=>J e.k-k) (λk=>[W p.s,W p.r,AE p.b,AP e.k,.C (Al 0),.C (Bz e 3)]) (λk=>[(2,.P 4 0),(3,.P 5 0),(4,A 0),(5,A (CK p.s p.r d 0 e.k k)),(6,A k)]) 0 O (Ap.at G _ _) ?_;clear G;intro k m a w l G;have f:J e.k<=9223372036854775807:=G.len 3 (d:=.P e.k) Au;refine B (B (BS G AB [(2,.P 4 0),(3,.P 5 0),(4,A 0),(5,A (CK p.s p.r d 0 e.k k)),(6,A k),(29,AC (Y ((k:Int)<J e.k)))] λG=>DZ G (λq z=>?_) λq z=>?_))
    · refine wp_exit (Bd (Bd (DG (B (AM G AB (AH 4) [W p.s,W p.r,AE p.b,AP e.k] [(4,A (CK p.s p.r d 0 e.k k))] λG=>AT ?_)))));exact DE (CK p.s p.r d 0 e.k k) G (AH 4) (MZ O (by simp[Fm,h,i];done))
    refine Aq (B (BN (JB G (Ai 7 [0,1,2,54] (j (e.k.getD k K) (Jz c O))) [0,0,0,4,0,28,60,126,255,511] [(5,A (AR (CK p.s p.r d 0 e.k k) (AL p.s p.r d (e.k.getD k K))))] (CD k k (J e.k) []) (CE O Ay) λG=>BL (Bi G AB [(6,A ((k:Int)+1))] [BC ((k:Int)+1)] (BA O) λG=>?_))));exact Ce G (k+1) O O (AH 6) (ht:=by have g:(CK p.s p.r d 0 e.k (k+1):Int)=(AR (CK p.s p.r d 0 e.k k) (AL p.s p.r d (e.k.getD k K))):=(Mt O);(first|rw[g]|simp only[g])<;>rfl)
   refine Bi G AB [(5,A (p.r.getD e.v.toNat 0))] [(0:Int)<=e.v,e.v<(J p.r:Int),e.v.toNat<J p.r] ⟨((MU c Ab).1),((MU c Ab).2.1),((MU c Ab).2.2),Ay⟩ λG=>BL (B (B (BS G AB [(2,.P 4 0),(3,.P 5 0),(4,A 0),(5,A (p.r.getD e.v.toNat 0)),(6,A 0)] λG=>BN ?_)));refine DR (h:=Nat) (λk=>k<=J e.k) (λk=>J e.k-k) (λk=>[W p.s,W p.r,AE p.b,AP e.k,.C (Al 0),.C (Bz e 3)]) (λk=>[(2,.P 4 0),(3,.P 5 0),(4,A 0),(5,A (CK p.s p.r d (p.r.getD e.v.toNat 0) e.k k)),(6,A k)]) 0 O (Ap.at G _ _) ?_;clear G;intro k m a w l G;have f:J e.k<=9223372036854775807:=G.len 3 (d:=.P e.k) Au;refine B (B (BS G AB [(2,.P 4 0),(3,.P 5 0),(4,A 0),(5,A (CK p.s p.r d (p.r.getD e.v.toNat 0) e.k k)),(6,A k),(29,AC (Y ((k:Int)<J e.k)))] λG=>DZ G (λo x=>?_) λo x=>?_))
   · refine wp_exit (Bd (Bd (DG (B (AM G AB (AH 4) [W p.s,W p.r,AE p.b,AP e.k] [(4,A (CK p.s p.r d (p.r.getD e.v.toNat 0) e.k k))] λG=>AT ?_)))));exact DE (CK p.s p.r d (p.r.getD e.v.toNat 0) e.k k) G (AH 4) (MZ O (by simp[Fm,i];done))
   refine Aq (B (BN (JB G (Ai 7 [0,1,2,54] (j (e.k.getD k K) (Jz c O))) [0,0,0,4,0,28,60,126,255,511] [(5,A (AR (CK p.s p.r d (p.r.getD e.v.toNat 0) e.k k) (AL p.s p.r d (e.k.getD k K))))] (CD k k (J e.k) []) (CE O Ay) λG=>BL (Bi G AB [(6,A ((k:Int)+1))] [BC ((k:Int)+1)] (BA O) λG=>?_))));exact Ce G (k+1) O O (AH 6) (ht:=by have g:(CK p.s p.r d (p.r.getD e.v.toNat 0) e.k (k+1):Int)=(AR (CK p.s p.r d (p.r.getD e.v.toNat 0) e.k k) (AL p.s p.r d (e.k.getD k K))):=(Mt O);(first|rw[g]|simp only[g])<;>rfl)
  refine Bi G AB [(5,A (p.s.getD e.v.toNat 0))] [(0:Int)<=e.v,e.v<(J p.s:Int),e.v.toNat<J p.s] ⟨((Lw c Ab).1),((Lw c Ab).2.1),((Lw c Ab).2.2),Ay⟩ λG=>BL (B (B (BS G AB [(2,.P 4 0),(3,.P 5 0),(4,A 0),(5,A (p.s.getD e.v.toNat 0)),(6,A 0)] λG=>BN ?_)));refine DR (h:=Nat) (λk=>k<=J e.k) (λk=>J e.k-k) (λk=>[W p.s,W p.r,AE p.b,AP e.k,.C (Al 0),.C (Bz e 3)]) (λk=>[(2,.P 4 0),(3,.P 5 0),(4,A 0),(5,A (CK p.s p.r d (p.s.getD e.v.toNat 0) e.k k)),(6,A k)]) 0 O (Ap.at G _ _) ?_;clear G;intro k m a w l G;have f:J e.k<=9223372036854775807:=G.len 3 (d:=.P e.k) Au;refine B (B (BS G AB [(2,.P 4 0),(3,.P 5 0),(4,A 0),(5,A (CK p.s p.r d (p.s.getD e.v.toNat 0) e.k k)),(6,A k),(29,AC (Y ((k:Int)<J e.k)))] λG=>DZ G (λC u=>?_) λC u=>?_))
  · refine wp_exit (Bd (Bd (DG (B (AM G AB (AH 4) [W p.s,W p.r,AE p.b,AP e.k] [(4,A (CK p.s p.r d (p.s.getD e.v.toNat 0) e.k k))] λG=>AT ?_)))));exact DE (CK p.s p.r d (p.s.getD e.v.toNat 0) e.k k) G (AH 4) (MZ O (by simp[Fm,h];done))
  refine Aq (B (BN (JB G (Ai 7 [0,1,2,54] (j (e.k.getD k K) (Jz c O))) [0,0,0,4,0,28,60,126,255,511] [(5,A (AR (CK p.s p.r d (p.s.getD e.v.toNat 0) e.k k) (AL p.s p.r d (e.k.getD k K))))] (CD k k (J e.k) []) (CE O Ay) λG=>BL (Bi G AB [(6,A ((k:Int)+1))] [BC ((k:Int)+1)] (BA O) λG=>?_))));exact Ce G (k+1) O O (AH 6) (ht:=by have g:(CK p.s p.r d (p.s.getD e.v.toNat 0) e.k (k+1):Int)=(AR (CK p.s p.r d (p.s.getD e.v.toNat 0) e.k k) (AL p.s p.r d (e.k.getD k K))):=(Mt O);(first|rw[g]|simp only[g])<;>rfl)
abbrev Pc(e:AF)(k:Nat)(a:List (Nat×AA)):List (Nat×AA):=(27,.N 3)::(28,A (J e.k:Int))::(29,A (k:Int))::a
abbrev LZ(p:BE)(e:AF)(a:List AI):List AI:=W p.s::W p.r::AE p.b::AP e.k::a
theorem E7(p)(d)(j:∀e,As (J p.s) (J p.r) d e=V->AN.ok prog (CJ 104 [Ao 0,Dc e 3] (Be p++Em e) (A (AL p.s p.r d e))))
    (e) (c:As (J p.s) (J p.r) (d+1) e=V):AN.ok prog (CJ 104 [Ao 0,Dc e 3] (Be p++Em e) (A (AL p.s p.r (d+1) e))):=by
  refine BP 40 func104 (LZ p e []) [(0,Ao 0),(1,Dc e 3)] λG=>?_;refine B (AM G AB [0,1,2,3,4,12] (LZ p e [.C (Al 0),.C (Bz e 3)]) [(2,.P 4 0),(3,.P 5 0),(4,A 0)] λG=>B (AQ G AB [(5,A 0)] λG=>B (B (AQ G AB [(9,A e.t)] λG=>BN (B (AQ G AB [(10,AC (e.t==2))] λG=>Cu G (λy h=>?_) λy h=>?_))))))
  ·
   refine B (AQ G AB [(18,AC (e.t==3))] λG=>Cu G (λn i=>?_) λn i=>?_)
   ·
    refine Aq (BL (B (B (AM G AB (AH 5) (LZ p e [.C (Al 0)]) [(2,.P 4 0),(4,A 0),(5,A 0),(27,.N 3),(28,A (J e.k:Int)),(29,A 0)] λG=>BN ?_))));refine DR (h:=Nat) (λk=>k<=J e.k) (λk=>J e.k-k) (λk=>[W p.s,W p.r,AE p.b,AP e.k,.C (Al 0)]) (λk=>[(2,.P 4 0),(4,A 0),(5,A (CK p.s p.r d 0 e.k k)),(27,.N 3),(28,A (J e.k:Int)),(29,A k)]) 0 O (Ap.at G _ _) ?_;clear G;intro k m a w l G;have f:J e.k<=9223372036854775807:=G.len 3 (d:=.P e.k) Au;refine B (BS G AB ((2,.P 4 0)::(4,A 0)::(5,A (CK p.s p.r d 0 e.k k))::(Pc e k [(30,AC (Y ((k:Int)<J e.k)))])) λG=>B (DZ G (λq z=>?_) λq z=>?_))
    · refine wp_exit (Bd (Bd (DG (B (AM G AB (AH 4) (LZ p e []) [(4,A (CK p.s p.r d 0 e.k k))] λG=>AT ?_)))));exact DE (CK p.s p.r d 0 e.k k) G (AH 4) (MZ O (by simp[Fm,h,i];done))
    refine Aq (B (BN (B (CT G AB [0,1,2,3,4,13,21] (LZ p e [.C (Al 0),AP (e.k.getD k K).k,.C (Bz (e.k.getD k K) 5)]) ((2,.P 4 0)::(4,A 0)::(5,A (CK p.s p.r d 0 e.k k))::(7,.P 6 0)::(Pc e k [])) (CD k k (J e.k) []) (CE O Ay) λG=>AM G (Ai 3 [0,1,2,5] (j (e.k.getD k K) (Jz c O))) (AH 5) (LZ p e [.C (Al 0)]) ((2,.P 4 0)::(4,A 0)::(5,A (AR (CK p.s p.r d 0 e.k k) (AL p.s p.r d (e.k.getD k K))))::(Pc e k [])) λG=>BL (Bi G AB [(29,A ((k:Int)+1))] [BC ((k:Int)+1)] (BA O) λG=>?_)))));exact Ce G (k+1) O O (AH 5) (ht:=by have g:(CK p.s p.r d 0 e.k (k+1):Int)=(AR (CK p.s p.r d 0 e.k k) (AL p.s p.r d (e.k.getD k K))):=(Mt O);(first|rw[g]|simp only[g])<;>rfl)
   refine Bi G AB [(5,A (p.r.getD e.v.toNat 0))] [(0:Int)<=e.v,e.v<(J p.r:Int),e.v.toNat<J p.r] ⟨((MU c Ab).1),((MU c Ab).2.1),((MU c Ab).2.2),Ay⟩ λG=>BL (B (B (AM G AB (AH 5) (LZ p e [.C (Al 0)]) [(2,.P 4 0),(4,A 0),(5,A (p.r.getD e.v.toNat 0)),(27,.N 3),(28,A (J e.k:Int)),(29,A 0)] λG=>BN ?_)));refine DR (h:=Nat) (λk=>k<=J e.k) (λk=>J e.k-k) (λk=>[W p.s,W p.r,AE p.b,AP e.k,.C (Al 0)]) (λk=>[(2,.P 4 0),(4,A 0),(5,A (CK p.s p.r d (p.r.getD e.v.toNat 0) e.k k)),(27,.N 3),(28,A (J e.k:Int)),(29,A k)]) 0 O (Ap.at G _ _) ?_;clear G;intro k m a w l G;have f:J e.k<=9223372036854775807:=G.len 3 (d:=.P e.k) Au;refine B (BS G AB ((2,.P 4 0)::(4,A 0)::(5,A (CK p.s p.r d (p.r.getD e.v.toNat 0) e.k k))::(Pc e k [(30,AC (Y ((k:Int)<J e.k)))])) λG=>B (DZ G (λo x=>?_) λo x=>?_))
   · refine wp_exit (Bd (Bd (DG (B (AM G AB (AH 4) (LZ p e []) [(4,A (CK p.s p.r d (p.r.getD e.v.toNat 0) e.k k))] λG=>AT ?_)))));exact DE (CK p.s p.r d (p.r.getD e.v.toNat 0) e.k k) G (AH 4) (MZ O (by simp[Fm,i];done))
   refine Aq (B (BN (B (CT G AB [0,1,2,3,4,13,21] (LZ p e [.C (Al 0),AP (e.k.getD k K).k,.C (Bz (e.k.getD k K) 5)]) ((2,.P 4 0)::(4,A 0)::(5,A (CK p.s p.r d (p.r.getD e.v.toNat 0) e.k k))::(7,.P 6 0)::(Pc e k [])) (CD k k (J e.k) []) (CE O Ay) λG=>AM G (Ai 3 [0,1,2,5] (j (e.k.getD k K) (Jz c O))) (AH 5) (LZ p e [.C (Al 0)]) ((2,.P 4 0)::(4,A 0)::(5,A (AR (CK p.s p.r d (p.r.getD e.v.toNat 0) e.k k) (AL p.s p.r d (e.k.getD k K))))::(Pc e k [])) λG=>BL (Bi G AB [(29,A ((k:Int)+1))] [BC ((k:Int)+1)] (BA O) λG=>?_)))));exact Ce G (k+1) O O (AH 5) (ht:=by have g:(CK p.s p.r d (p.r.getD e.v.toNat 0) e.k (k+1):Int)=(AR (CK p.s p.r d (p.r.getD e.v.toNat 0) e.k k) (AL p.s p.r d (e.k.getD k K))):=(Mt O);(first|rw[g]|simp only[g])<;>rfl)
  refine Bi G AB [(5,A (p.s.getD e.v.toNat 0))] [(0:Int)<=e.v,e.v<(J p.s:Int),e.v.toNat<J p.s] ⟨((Lw c Ab).1),((Lw c Ab).2.1),((Lw c Ab).2.2),Ay⟩ λG=>BL (B (B (AM G AB (AH 5) (LZ p e [.C (Al 0)]) [(2,.P 4 0),(4,A 0),(5,A (p.s.getD e.v.toNat 0)),(27,.N 3),(28,A (J e.k:Int)),(29,A 0)] λG=>BN ?_)));refine DR (h:=Nat) (λk=>k<=J e.k) (λk=>J e.k-k) (λk=>[W p.s,W p.r,AE p.b,AP e.k,.C (Al 0)]) (λk=>[(2,.P 4 0),(4,A 0),(5,A (CK p.s p.r d (p.s.getD e.v.toNat 0) e.k k)),(27,.N 3),(28,A (J e.k:Int)),(29,A k)]) 0 O (Ap.at G _ _) ?_;clear G;intro k m a w l G;have f:J e.k<=9223372036854775807:=G.len 3 (d:=.P e.k) Au;refine B (BS G AB ((2,.P 4 0)::(4,A 0)::(5,A (CK p.s p.r d (p.s.getD e.v.toNat 0) e.k k))::(Pc e k [(30,AC (Y ((k:Int)<J e.k)))])) λG=>B (DZ G (λC u=>?_) λC u=>?_))
  · refine wp_exit (Bd (Bd (DG (B (AM G AB (AH 4) (LZ p e []) [(4,A (CK p.s p.r d (p.s.getD e.v.toNat 0) e.k k))] λG=>AT ?_)))));exact DE (CK p.s p.r d (p.s.getD e.v.toNat 0) e.k k) G (AH 4) (MZ O (by simp[Fm,h];done))
  refine Aq (B (BN (B (CT G AB [0,1,2,3,4,13,21] (LZ p e [.C (Al 0),AP (e.k.getD k K).k,.C (Bz (e.k.getD k K) 5)]) ((2,.P 4 0)::(4,A 0)::(5,A (CK p.s p.r d (p.s.getD e.v.toNat 0) e.k k))::(7,.P 6 0)::(Pc e k [])) (CD k k (J e.k) []) (CE O Ay) λG=>AM G (Ai 3 [0,1,2,5] (j (e.k.getD k K) (Jz c O))) (AH 5) (LZ p e [.C (Al 0)]) ((2,.P 4 0)::(4,A 0)::(5,A (AR (CK p.s p.r d (p.s.getD e.v.toNat 0) e.k k) (AL p.s p.r d (e.k.getD k K))))::(Pc e k [])) λG=>BL (Bi G AB [(29,A ((k:Int)+1))] [BC ((k:Int)+1)] (BA O) λG=>?_)))));exact Ce G (k+1) O O (AH 5) (ht:=by have g:(CK p.s p.r d (p.s.getD e.v.toNat 0) e.k (k+1):Int)=(AR (CK p.s p.r d (p.s.getD e.v.toNat 0) e.k k) (AL p.s p.r d (e.k.getD k K))):=(Mt O);(first|rw[g]|simp only[g])<;>rfl)
theorem of(p):∀d e,As (J p.s) (J p.r) d e=V->AN.ok prog (CJ 139 [Ao 0,Dc e 3] (Be p++Em e) (A (AL p.s p.r d e))):=by
 intro d;induction d with
 |zero=>intro e h;simp[As]at h
 |succ d a=>intro e h;exact vw p d a e h
theorem l0(p):∀d e,As (J p.s) (J p.r) d e=V->AN.ok prog (CJ 104 [Ao 0,Dc e 3] (Be p++Em e) (A (AL p.s p.r d e))):=by
 intro d;induction d with
 |zero=>intro e h;simp[As]at h
 |succ d a=>intro e h;exact E7 p d a e h
def Cx(b a:List Int):Nat->AF->Bool
 |0,_=>U
 |d+1,e=>(Y (e.t=3)&&(Af (AL b a d (e.k.getD 0 K))&&Y (AL b a d (e.k.getD 0 K)%2=1)))||e.k.any (Cx b a d)
section
variable{vs ars:List Int}{d:Nat}{e:AF}
theorem W5(k:e.t=3)(h:(Af (AL vs ars d (e.k.getD 0 K))&&Y (AL vs ars d (e.k.getD 0 K)%2=1))=V):Cx vs ars (d+1) e=true:=by rw[Cx,h];simp[k]
theorem QV(h:e.k.any (Cx vs ars d)=U)(k:¬e.t=3):Cx vs ars (d+1) e=false:=by rw[Cx,h];simp[k]
theorem fg(h:e.k.any (Cx vs ars d)=U)(k:(Af (AL vs ars d (e.k.getD 0 K))&&Y (AL vs ars d (e.k.getD 0 K)%2=1))=U):Cx vs ars (d+1) e=false:=by rw[Cx,h,k];simp
end
theorem Zk{a:Type}{l:List a}{k}{p:a->Bool}{z:a}(h:(l.take k).any p=U)(b:k<J l)(c:p (l.getD k z)=U):(l.take (k+1)).any p=false:=by
 rw[ND l k b,List.any_append,h, <-DU (d:=z) b,List.any_cons,c];rfl
theorem YQ{a:Type}{l:List a}{k}{p:a->Bool}(h:(l.take k).any p=U)(b:J l<=k):l.any p=false:=by
 rw[Dq b]at h;exact h
theorem oK{a:Type}{l:List a}{k}{p:a->Bool}{z:a}(b:k<J l)(c:p (l.getD k z)=V):l.any p=true:=by
 rw[DU b]at c;exact List.any_eq_true.2 ⟨_,EL b,c⟩
theorem wO(p)(d)(m:∀e,As (J p.s) (J p.r) d e=V->AN.ok prog (CJ 201 [Ao 0,Dc e 3] (Be p++Em e) (AC (Cx p.s p.r d e))))
    (j:∀e,As (J p.s) (J p.r) d e=V->AN.ok prog (CJ 139 [Ao 0,Dc e 3] (Be p++Em e) (A (AL p.s p.r d e))))
    (e) (g:As (J p.s) (J p.r) (d+1) e=V):AN.ok prog (CJ 201 [Ao 0,Dc e 3] (Be p++Em e) (AC (Cx p.s p.r (d+1) e))):=by
  refine BP 32 func201 [W p.s,W p.r,AE p.b,AP e.k] [(0,Ao 0),(1,Dc e 3)] λG=>?_;have l:J e.k<=9223372036854775807:=G.len 3 (d:=.P e.k) Au;refine B (AM G AB [0,1,2,3,4,12] [W p.s,W p.r,AE p.b,AP e.k,.C (Al 0),.C (Bz e 3)] [(2,.P 4 0),(3,.P 5 0),(4,AC U)] λG=>B (B ?_));cases i:(e.t==3)
  ·
   have v:=ne_of_beq_false i;refine NK G (CR (AS i Ag) (Ad [(4,10,0),(1011,1011,0)])) [0,1,3,7,15,15,47,111,239,511,1023,2047] [(17,AC U)] λG=>Bo G U Au (Aq (B (B (BS G AB [(2,.P 4 0),(3,.P 5 0),(4,AC U),(5,A 0)] λG=>BN ?_))));refine DR (h:=Nat) (λk=>k<=J e.k/\(e.k.take k).any (Cx p.s p.r d)=U) (λk=>J e.k-k) (λk=>[W p.s,W p.r,AE p.b,AP e.k,.C (Al 0),.C (Bz e 3)]) (λk=>[(2,.P 4 0),(3,.P 5 0),(4,AC U),(5,A k)]) 0 (by simp) (Ap.at G _ _) ?_;clear G;intro k C a w f G;refine B (B (AQ G AB [(22,AC (Y ((k:Int)<J e.k)))] λG=>DZ G (λo y=>?_) λo y=>?_))
   · refine wp_exit (Bd (Bd (DG (B (AM G AB (AH 4) [W p.s,W p.r,AE p.b,AP e.k] [(4,AC U)] λG=>AT ?_)))));exact BU U G (AH 4) (QV (YQ f.2 O) Ab)
   refine Aq (B (BN (B (JB G (Ai 6 [0,1,2,46] (m (e.k.getD k K) (Jz g O))) [0,0,2,0,14,30,63] [(31,AC (Cx p.s p.r d (e.k.getD k K)))] (CD k k (J e.k) []) (CE O Ay) λG=>Rc G (λn=>?_) λn=>?_))))
   · refine Aq (BL (Bi G AB [(5,A ((k:Int)+1))] [BC ((k:Int)+1)] (BA O) λG=>?_));exact Ce G (k+1) (⟨O,Zk f.2 O Ab⟩) O (AH 6)
   refine B (AQ G AB [(4,AC V)] λG=>AT (Cg (Ar (Ar (Cg (Ar ?_))))));exact BU V G (AH 4) (by rw[Cx,oK (k:=k) O Ab,Bool.or_true])
  have v:=eq_of_beq i;refine JB G (BH (AX 9 [0,1,2,70] (j (e.k.getD 0 K) (Jz g (Td g Ab))) (AX 10 [] (UX (AL p.s p.r d (e.k.getD 0 K))) BG)) (AS i Ag) (Ad [(4,10,0),(1011,1011,0)])) [0,1,3,7,15,15,47,111,239,511,1023,2047] [(17,AC (Af (AL p.s p.r d (e.k.getD 0 K))&&Y (AL p.s p.r d (e.k.getD 0 K)%2=1)))] (CD 0 0 (J e.k) []) (CE (by have:=Td g Ab;omega) Ay) λG=>?_;cases h:(Af (AL p.s p.r d (e.k.getD (0:Nat) K))&&Y (AL p.s p.r d (e.k.getD (0:Nat) K)%(2:Int)=1))
  ·
   have x:((Af (AL p.s p.r d (e.k.getD 0 K)))=U)\/(¬(AL p.s p.r d (e.k.getD 0 K)%2=1)):=Or.imp (λc=>(c)) (λc=>of_decide_eq_false c) (HW.1 h);refine Bo G _ h (Aq (B (B (BS G AB [(2,.P 4 0),(3,.P 5 0),(4,AC U),(5,A 0)] λG=>BN ?_))));refine DR (h:=Nat) (λk=>k<=J e.k/\(e.k.take k).any (Cx p.s p.r d)=U) (λk=>J e.k-k) (λk=>[W p.s,W p.r,AE p.b,AP e.k,.C (Al 0),.C (Bz e 3)]) (λk=>[(2,.P 4 0),(3,.P 5 0),(4,AC U),(5,A k)]) 0 (by simp) (Ap.at G _ _) ?_;clear G;intro k C a w f G;refine B (B (AQ G AB [(22,AC (Y ((k:Int)<J e.k)))] λG=>DZ G (λz q=>?_) λz q=>?_))
   · refine wp_exit (Bd (Bd (DG (B (AM G AB (AH 4) [W p.s,W p.r,AE p.b,AP e.k] [(4,AC U)] λG=>AT ?_)))));exact BU U G (AH 4) (fg (YQ f.2 O) Ab)
   refine Aq (B (BN (B (JB G (Ai 6 [0,1,2,46] (m (e.k.getD k K) (Jz g O))) [0,0,2,0,14,30,63] [(31,AC (Cx p.s p.r d (e.k.getD k K)))] (CD k k (J e.k) []) (CE O Ay) λG=>Rc G (λu=>?_) λu=>?_))))
   · refine Aq (BL (Bi G AB [(5,A ((k:Int)+1))] [BC ((k:Int)+1)] (BA O) λG=>?_));exact Ce G (k+1) (⟨O,Zk f.2 O Ab⟩) O (AH 6)
   refine B (AQ G AB [(4,AC V)] λG=>AT (Cg (Ar (Ar (Cg (Ar ?_))))));exact BU V G (AH 4) (by rw[Cx,oK (k:=k) O Ab,Bool.or_true])
  have x:((Af (AL p.s p.r d (e.k.getD 0 K)))=V)/\(AL p.s p.r d (e.k.getD 0 K)%2=1):=And.imp (λc=>(c)) (λc=>of_decide_eq_true c) (Gy.1 h);refine Ba G _ h (B (AQ G AB [(4,AC V)] λG=>AT (Ar ?_)));exact BU V G (AH 4) (W5 Ab Ab)
def Gw(x y:Int):Bool:=Af x&&Af y&&(AR x y==y)
abbrev BI(p:BE)(e:AF):Int:=AL p.s p.r 5 e
def Dk(x:Int):Bool:=Af x&&Y (x%2=1)
def GX(p:BE)(s:AG)(a:Int):Int:=
 if s.t=1 then if Gw (AR (BI p s.v) a) (p.s.getD s.g.toNat 0)then 0 else 1
 else if s.t=2 then if Gw (AR (AR (BI p s.v) (BI p s.i)) a) (p.r.getD s.g.toNat 0)then 0 else 1
 else if s.t=5 then if(Af (BI p s.v)&&Y (BI p s.v<=1))&&Y (a=0)then 0 else 2
 else 0
def LS(p:BE)(s:AG):Int:=
 if s.t=3/\Dk (BI p s.v)=V then 3
 else if(s.t≠4/\Cx p.s p.r 5 s.v=V)\/(s.t=2/\Dk (BI p s.i)=V)then 4 else 0
def Ff(p:BE)(s:AG)(b:Int)(a:Bool):Int:=if GX p s b=0 then(if a then LS p s else 0)else GX p s b
theorem PV(p)(e)(a:As (J p.s) (J p.r) 5 e=V):AN.ok prog (CJ 139 [Ao 0,Dc e 3] (Be p++Em e) (A (BI p e))):=of p 5 e a
theorem j9(p):∀d e,As (J p.s) (J p.r) d e=V->AN.ok prog (CJ 201 [Ao 0,Dc e 3] (Be p++Em e) (AC (Cx p.s p.r d e))):=by
 intro d;induction d with
 |zero=>intro e h;simp[As]at h
 |succ d a=>intro e h;exact wO p d a (of p d) e h
theorem Oe(p)(e)(a:As (J p.s) (J p.r) 5 e=V):AN.ok prog (CJ 201 [Ao 0,Dc e 3] (Be p++Em e) (AC (Cx p.s p.r 5 e))):=j9 p 5 e a
section
variable{nv na:Nat}{s:AG}
theorem gQ{e}(h:CQ nv na e=V):As nv na 5 e=true:=by unfold CQ at h;simp only[Aj]at h;exact h.1
variable(h:EE nv na s=V)
include h
theorem Fy(k:¬s.t=4):As nv na 5 s.v=true:=by
 apply gQ;by_cases c:s.t=1\/s.t=5
 ·rw[FC c]at h;simp only[Aj]at h;exact h.2.2
 by_cases a:s.t=2
 ·rw[Hq a]at h;simp only[Aj]at h;exact h.2.2.2
 by_cases b:s.t=3
 ·rw[LM b]at h;simp only[Aj]at h;exact h.2.2
 rw[IK O]at h;cases h
theorem WX(k:s.t=2):As nv na 5 s.i=true:=by
 rw[Hq k]at h;simp only[Aj]at h;exact gQ h.2.1
theorem PH(k:s.t=1\/s.t=5):0<=s.g/\s.g<nv/\s.g.toNat<nv:=by
 rw[FC k]at h;simp only[Aj,decide_eq_true_eq]at h;omega
theorem Qp(k:s.t=2):0<=s.g/\s.g<na/\s.g.toNat<na:=by
 rw[Hq k]at h;simp only[Aj,decide_eq_true_eq]at h;omega
end
section
variable{p:BE}{s:AG}{pc:Int}{strict:Bool}{x:Int}
theorem XV(h:GX p s pc=x)(a:x≠0):Ff p s pc strict=x:=by rw[Ff,h,AO a]
theorem Vf(h:GX p s pc=0):Ff p s pc U=0:=by rw[Ff,h];rfl
theorem MI(h:GX p s pc=0)(a:LS p s=x):Ff p s pc V=x:=by rw[Ff,h,a];rfl
theorem df(k:s.t=1)(h:(!(Af (AR (BI p s.v) pc)&&Af (p.s.getD s.g.toNat 0)&&(AR (AR (BI p s.v) pc) (p.s.getD s.g.toNat 0)==(p.s.getD s.g.toNat 0))))=U):GX p s pc=0:=by rw[GX,AZ k,AZ (by unfold Gw;first|(rw[Cp]at h;exact h)|(rw[Cn]at h;rw[h];simp))]
theorem vl(k:s.t=1)(h:(!(Af (AR (BI p s.v) pc)&&Af (p.s.getD s.g.toNat 0)&&(AR (AR (BI p s.v) pc) (p.s.getD s.g.toNat 0)==(p.s.getD s.g.toNat 0))))=V):GX p s pc=1:=by rw[GX,AZ k,AO (by unfold Gw;first|(rw[Cp]at h;exact h)|(rw[Cn]at h;rw[h];simp))]
theorem Zm(k:s.t=2)(h:(!(Af (AR (AR (BI p s.v) (BI p s.i)) pc)&&Af (p.r.getD s.g.toNat 0)&&(AR (AR (AR (BI p s.v) (BI p s.i)) pc) (p.r.getD s.g.toNat 0)==(p.r.getD s.g.toNat 0))))=U):GX p s pc=0:=by rw[GX,AO O,AZ k,AZ (by unfold Gw;first|(rw[Cp]at h;exact h)|(rw[Cn]at h;rw[h];simp))]
theorem I9(k:s.t=2)(h:(!(Af (AR (AR (BI p s.v) (BI p s.i)) pc)&&Af (p.r.getD s.g.toNat 0)&&(AR (AR (AR (BI p s.v) (BI p s.i)) pc) (p.r.getD s.g.toNat 0)==(p.r.getD s.g.toNat 0))))=V):GX p s pc=1:=by rw[GX,AO O,AZ k,AO (by unfold Gw;first|(rw[Cp]at h;exact h)|(rw[Cn]at h;rw[h];simp))]
theorem jn(k:s.t=5)(h:(!(Af (BI p s.v)&&Y (BI p s.v<=1)))=U)(a:pc=0):GX p s pc=0:=by
 rw[Cp]at h;rw[GX,AO O,AO O,AZ k,h,decide_eq_true a];rfl
theorem pZ(k:s.t=5)(h:(!(Af (BI p s.v)&&Y (BI p s.v<=1)))=V\/¬pc=0):GX p s pc=2:=by
 rw[GX,AO O,AO O,AZ k];rcases h with h|h
 ·rw[Cn]at h
  rw[h];rfl
 rw[decide_eq_false h,Bool.and_false];rfl
theorem QM(k:¬s.t=1/\¬s.t=2/\¬s.t=5):GX p s pc=0:=by rw[GX,AO k.1,AO k.2.1,AO k.2.2]
theorem wR(k:s.t=3)(h:(Af (BI p s.v)&&Y (BI p s.v%2=1))=V):LS p s=3:=by rw[LS,AZ ⟨k,(show Dk _=V from h)⟩]
theorem VE(c:¬s.t=3\/(Af (BI p s.v)&&Y (BI p s.v%2=1))=U)(k:¬s.t=4)(h:Cx p.s p.r 5 s.v=V):LS p s=4:=by
 rw[LS,AO (by rintro⟨a,b⟩;exact c.elim (λh=>h a) (λh=>Bool.false_ne_true (h.symm.trans b))),AZ (.inl ⟨k,h⟩)]
theorem v7(k:s.t=2)(h:(Af (BI p s.i)&&Y (BI p s.i%2=1))=V):LS p s=4:=by
 rw[LS,AO O,AZ (.inr ⟨k,(show Dk _=V from h)⟩)]
theorem Ue(c:¬s.t=3\/(Af (BI p s.v)&&Y (BI p s.v%2=1))=U)(d:s.t=4\/Cx p.s p.r 5 s.v=U)(e:¬s.t=2\/(Af (BI p s.i)&&Y (BI p s.i%2=1))=U):LS p s=0:=by
 rw[LS,AO (by rintro⟨a,b⟩;exact c.elim (λh=>h a) (λh=>Bool.false_ne_true (h.symm.trans b))),AO]
 rintro(⟨a,b⟩|⟨a,b⟩)
 ·rcases d with h|h
  ·exact a h
  rw[h]at b;cases b
 rcases e with h|h
 ·exact h a
 exact Bool.false_ne_true (h.symm.trans b)
end
abbrev Ji(p:BE)(s:AG)(a:List AI):List AI:=W p.s::W p.r::AE p.b::AP s.i.k::AP s.v.k::AE s.b::AE s.e::a
theorem wB(p)(s)(d)(a)(h:EE (J p.s) (J p.r) s=V):AN.ok prog (CJ 191 [Ao 0,Fw s 3,A d,AC a] (Be p++ID s) (A (Ff p s d a))):=by
  refine BP 94 func191 (Ji p s []) [(0,Ao 0),(1,Fw s 3),(2,A d),(3,AC a)] λG=>?_;refine B (AM G AB [0,1,2,3,4,5,6,7,15] (Ji p s [.C (Al 0),.C (Ct s 3)]) [(2,A d),(3,AC a),(4,.P 7 0),(5,.P 8 0),(8,A 0)] λG=>B (B (AQ G AB [(10,A s.t)] λG=>BN (B (AQ G AB [(11,AC (s.t==1))] λG=>Cu G (λh0 q0=>?_) λh0 q0=>?_)))))
  ·
   refine B (AQ G AB [(27,AC (s.t==2))] λG=>Cu G (λx q1=>?_) λx q1=>?_)
   ·
    refine B (AQ G AB [(48,AC (s.t==5))] λG=>Cu G (λh2 q2=>?_) λh2 q2=>?_)
    ·
     refine B (AQ G AB [(60,AC (s.t==3))] λG=>Cu G (λh3 q3=>?_) λh3 q3=>?_)
     ·
      refine Aq (BL (B (B ?_)));cases H:(a)
      · refine AM G (CR (AS H Ag) (Ad [(2,5,0),(10,11,0),(22,22,0),(1023,1023,0)])) (AH 7) (Ji p s []) [(8,A 0),(93,AC U)] λG=>Bo G U Au (Aq (B (AQ G AB [] λG=>AT ?_)));exact DE 0 G (AH 7) (Vf (QM O))
      cases F:(s.t !=4)
      · have q5:=bne_eq_false_iff_eq.1 F;refine AM G (CR (AS H (AS F (AS (b:=U) rfl (AS x Ag)))) (Ad [(2,5,0),(6,9,1),(10,10,0),(1010,1010,1),(11,11,0),(12,15,2),(16,20,3),(21,21,2),(1021,1021,3),(22,22,0),(1022,1022,2),(1023,1023,0)])) (AH 7) (Ji p s []) [(8,A 0),(93,AC U)] λG=>Bo G U Au (Aq (B (AQ G AB [] λG=>AT ?_)));exact DE 0 G (AH 7) (MI (QM O) (Ue LD LD LD))
      have q5:=bne_iff_ne.1 F;cases h6:(Cx p.s p.r (5:Nat) s.v)
      · refine AM G (BH (AX 9 [0,1,2,4] (Oe p s.v (Fy h O)) BG) (AS H (AS F (AS h6 (AS x Ag)))) (Ad [(2,5,0),(6,9,1),(10,10,0),(1010,1010,1),(11,11,0),(12,15,2),(16,20,3),(21,21,2),(1021,1021,3),(22,22,0),(1022,1022,2),(1023,1023,0)])) (AH 7) (Ji p s []) [(8,A 0),(93,AC U)] λG=>Bo G U Au (Aq (B (AQ G AB [] λG=>AT ?_)));exact DE 0 G (AH 7) (MI (QM O) (Ue LD (by exact .inr AY) LD))
      refine AM G (BH (AX 9 [0,1,2,4] (Oe p s.v (Fy h O)) BG) (AS H (AS F (AS h6 Ag))) (Ad [(2,5,0),(6,9,1),(10,10,0),(1010,1010,1),(11,11,0),(12,15,2),(21,21,2),(22,22,0),(1022,1022,2),(1023,1023,0)])) (AH 7) (Ji p s []) [(8,A 0),(93,AC V)] λG=>Ba G V Au (B (AQ G AB [(8,A 4)] λG=>AT (Ar ?_)));exact DE 4 G (AH 7) (MI (QM O) (VE LD O AY))
     refine B ?_;cases y:(a)
     · refine AQ G (CR (AS y Ag) (Ad [(2,6,0),(1007,1007,0)])) [(69,AC U)] λG=>Bo G U Au (Aq (BL (B (B (AM G (CR (AS y Ag) (Ad [(2,5,0),(10,11,0),(22,22,0),(1023,1023,0)])) (AH 7) (Ji p s []) [(8,A 0),(93,AC U)] λG=>Bo G U Au (Aq (B (AQ G AB [] λG=>AT ?_))))))));exact DE 0 G (AH 7) (Vf (QM O))
     refine BS G (BH (AX 5 [0,1,2,4] (PV p s.v (Fy h O)) (AX 6 [] (UX (BI p s.v)) BG)) (AS y Ag) (Ad [(2,6,0),(1007,1007,0)])) [(3,AC a),(4,.P 7 0),(5,.P 8 0),(8,A 0),(69,AC (Af (BI p s.v)&&Y (BI p s.v%2=1)))] λG=>?_;cases M:(Af (BI p s.v)&&Y (BI p s.v%(2:Int)=1))
     ·
      have q8:((Af (BI p s.v))=U)\/(¬(BI p s.v%2=1)):=Or.imp (λc=>(c)) (λc=>of_decide_eq_false c) (HW.1 M);refine Bo G _ M (Aq (BL (B (B ?_))));cases L:(s.t !=4)
      · have q9:=bne_eq_false_iff_eq.1 L;exact False.elim O
      have q9:=bne_iff_ne.1 L;cases D:(Cx p.s p.r (5:Nat) s.v)
      · refine AM G (BH (AX 9 [0,1,2,4] (Oe p s.v (Fy h O)) BG) (AS y (AS L (AS D (AS x Ag)))) (Ad [(2,5,0),(6,9,1),(10,10,0),(1010,1010,1),(11,11,0),(12,15,2),(16,20,3),(21,21,2),(1021,1021,3),(22,22,0),(1022,1022,2),(1023,1023,0)])) (AH 7) (Ji p s []) [(8,A 0),(93,AC U)] λG=>Bo G U Au (Aq (B (AQ G AB [] λG=>AT ?_)));exact DE 0 G (AH 7) (MI (QM O) (Ue (by exact .inr AY) (by exact .inr AY) LD))
      refine AM G (BH (AX 9 [0,1,2,4] (Oe p s.v (Fy h O)) BG) (AS y (AS L (AS D Ag))) (Ad [(2,5,0),(6,9,1),(10,10,0),(1010,1010,1),(11,11,0),(12,15,2),(21,21,2),(22,22,0),(1022,1022,2),(1023,1023,0)])) (AH 7) (Ji p s []) [(8,A 0),(93,AC V)] λG=>Ba G V Au (B (AQ G AB [(8,A 4)] λG=>AT (Ar ?_)));exact DE 4 G (AH 7) (MI (QM O) (VE (by exact .inr AY) O AY))
     have q8:((Af (BI p s.v))=V)/\(BI p s.v%2=1):=And.imp (λc=>(c)) (λc=>of_decide_eq_true c) (Gy.1 M);refine Ba G _ M (B (AQ G AB [(8,A 3)] λG=>AT (Cg (Ar ?_))));exact DE 3 G (AH 7) (MI (QM O) (wR AY AY))
    refine B ?_;cases f:(!(Af (BI p s.v)&&Y (BI p s.v<=1)))
    ·
     have S:((Af (BI p s.v))=V)/\(BI p s.v<=1):=(λc=>And.imp (λc=>(c)) (λc=>of_decide_eq_true c) (Gy.1 c)) (Eq.mp (Cp _) f);refine BS G (BH (AX 3 [0,1,2,4] (PV p s.v (Fy h O)) (AX 4 [] (qG (BI p s.v)) BG)) (AS f Ag) [(7,0),(8,0),(1009,0)]) [(3,AC a),(4,.P 7 0),(5,.P 8 0),(8,A 0),(59,AC (d !=0))] λG=>IP G (λN aD=>?_) λN aD=>?_
     ·
      refine Aq (BL (B (B ?_)));cases q:(a)
      · refine AM G (CR (AS q Ag) (Ad [(2,5,0),(10,11,0),(22,22,0),(1023,1023,0)])) (AH 7) (Ji p s []) [(8,A 0),(93,AC U)] λG=>Bo G U Au (Aq (B (AQ G AB [] λG=>AT ?_)));exact DE 0 G (AH 7) (Vf (jn AY AY AY))
      cases n:(s.t !=4)
      · have R:=bne_eq_false_iff_eq.1 n;exact False.elim O
      have R:=bne_iff_ne.1 n;cases z:(Cx p.s p.r (5:Nat) s.v)
      · refine AM G (BH (AX 9 [0,1,2,4] (Oe p s.v (Fy h O)) BG) (AS q (AS n (AS z (AS x Ag)))) (Ad [(2,5,0),(6,9,1),(10,10,0),(1010,1010,1),(11,11,0),(12,15,2),(16,20,3),(21,21,2),(1021,1021,3),(22,22,0),(1022,1022,2),(1023,1023,0)])) (AH 7) (Ji p s []) [(8,A 0),(93,AC U)] λG=>Bo G U Au (Aq (B (AQ G AB [] λG=>AT ?_)));exact DE 0 G (AH 7) (MI (jn AY AY AY) (Ue LD (by exact .inr AY) LD))
      refine AM G (BH (AX 9 [0,1,2,4] (Oe p s.v (Fy h O)) BG) (AS q (AS n (AS z Ag))) (Ad [(2,5,0),(6,9,1),(10,10,0),(1010,1010,1),(11,11,0),(12,15,2),(21,21,2),(22,22,0),(1022,1022,2),(1023,1023,0)])) (AH 7) (Ji p s []) [(8,A 0),(93,AC V)] λG=>Ba G V Au (B (AQ G AB [(8,A 4)] λG=>AT (Ar ?_)));exact DE 4 G (AH 7) (MI (jn AY AY AY) (VE LD O AY))
     refine B (AQ G AB [(8,A 2)] λG=>AT (Cg (Ar ?_)));exact DE 2 G (AH 7) (XV (pZ AY (.inr AY)) ED)
    have S:((Af (BI p s.v))=U)\/(¬(BI p s.v<=1)):=(λc=>Or.imp (λc=>(c)) (λc=>of_decide_eq_false c) (HW.1 c)) (Eq.mp (Cn _) f);refine AQ G (BH (AX 3 [0,1,2,4] (PV p s.v (Fy h O)) (AX 4 [] (qG (BI p s.v)) BG)) (AS f Ag) [(7,0),(8,0),(1009,0)]) [(59,AC V)] λG=>Ba G V Au (B (AQ G AB [(8,A 2)] λG=>AT (Cg (Ar ?_))));exact DE 2 G (AH 7) (XV (pZ AY (.inl AY)) ED)
   refine B (TF G (BH (AX 3 [0,1,2,4] (PV p s.v (Fy h O)) (AX 7 (AH 4) (PV p s.i (WX h AY)) (AX 17 [] (lQ (AR (AR (BI p s.v) (BI p s.i)) d) (p.r.getD s.g.toNat 0)) BG))) Ag []) [0,0,2,7,0,0,32,127,255,0,1023,0,2048,0,8192,30720,63488,131071,262143] [(3,AC a),(4,.P 7 0),(5,.P 8 0),(8,A 0),(47,.v (.bool !(Af (AR (AR (BI p s.v) (BI p s.i)) d)&&Af (p.r.getD s.g.toNat 0)&&AR (AR (AR (BI p s.v) (BI p s.i)) d) (p.r.getD s.g.toNat 0)==p.r.getD s.g.toNat 0)))] [(0:Int)<=s.g,s.g<(J p.r:Int),s.g.toNat<J p.r] ⟨((Qp h O).1),((Qp h O).2.1),((Qp h O).2.2),Ay⟩ λG=>?_);cases l:(!(Af (AR (AR (BI p s.v) (BI p s.i)) d)&&Af (p.r.getD s.g.toNat (0:Int))&&AR (AR (AR (BI p s.v) (BI p s.i)) d) (p.r.getD s.g.toNat (0:Int))==p.r.getD s.g.toNat (0:Int)))
   ·
    have T:(((Af (AR (AR (BI p s.v) (BI p s.i)) d))=V)/\((Af (p.r.getD s.g.toNat 0))=V))/\(AR (AR (AR (BI p s.v) (BI p s.i)) d) (p.r.getD s.g.toNat 0)=p.r.getD s.g.toNat 0):=(λc=>And.imp (λc=>And.imp (λc=>(c)) (λc=>(c)) (Gy.1 c)) (λc=>eq_of_beq c) (Gy.1 c)) (Eq.mp (Cp _) l);refine Bo G _ l (Aq (BL (B (B ?_))));cases u:(a)
    · refine AM G (CR (AS u Ag) (Ad [(2,5,0),(10,11,0),(22,22,0),(1023,1023,0)])) (AH 7) (Ji p s []) [(8,A 0),(93,AC U)] λG=>Bo G U Au (Aq (B (AQ G AB [] λG=>AT ?_)));exact DE 0 G (AH 7) (Vf (Zm AY AY))
    cases e:(s.t !=4)
    · have Q:=bne_eq_false_iff_eq.1 e;exact False.elim O
    have Q:=bne_iff_ne.1 e;cases E:(Cx p.s p.r (5:Nat) s.v)
    ·
     refine AM G (BH (AX 9 [0,1,2,4] (Oe p s.v (Fy h O)) (AX 19 (AH 4) (PV p s.i (WX h AY)) (AX 20 [] (UX (BI p s.i)) BG))) (AS u (AS e (AS E (AS x Ag)))) (Ad [(2,5,0),(6,9,1),(10,10,0),(1010,1010,1),(11,11,0),(12,15,2),(16,20,3),(21,21,2),(1021,1021,3),(22,22,0),(1022,1022,2),(1023,1023,0)])) (AH 7) (Ji p s []) [(8,A 0),(93,AC (Af (BI p s.i)&&Y (BI p s.i%2=1)))] λG=>?_;cases m:(Af (BI p s.i)&&Y (BI p s.i%(2:Int)=1))
     · have P:((Af (BI p s.i))=U)\/(¬(BI p s.i%2=1)):=Or.imp (λc=>(c)) (λc=>of_decide_eq_false c) (HW.1 m);refine Bo G _ m (Aq (B (AQ G AB [] λG=>AT ?_)));exact DE 0 G (AH 7) (MI (Zm AY AY) (Ue LD (by exact .inr AY) (by exact .inr AY)))
     have P:((Af (BI p s.i))=V)/\(BI p s.i%2=1):=And.imp (λc=>(c)) (λc=>of_decide_eq_true c) (Gy.1 m);refine Ba G _ m (B (AQ G AB [(8,A 4)] λG=>AT (Ar ?_)));exact DE 4 G (AH 7) (MI (Zm AY AY) (v7 AY AY))
    refine AM G (BH (AX 9 [0,1,2,4] (Oe p s.v (Fy h O)) BG) (AS u (AS e (AS E Ag))) (Ad [(2,5,0),(6,9,1),(10,10,0),(1010,1010,1),(11,11,0),(12,15,2),(21,21,2),(22,22,0),(1022,1022,2),(1023,1023,0)])) (AH 7) (Ji p s []) [(8,A 0),(93,AC V)] λG=>Ba G V Au (B (AQ G AB [(8,A 4)] λG=>AT (Ar ?_)));exact DE 4 G (AH 7) (MI (Zm AY AY) (VE LD O AY))
   have T:(((Af (AR (AR (BI p s.v) (BI p s.i)) d))=U)\/((Af (p.r.getD s.g.toNat 0))=U))\/(¬(AR (AR (AR (BI p s.v) (BI p s.i)) d) (p.r.getD s.g.toNat 0)=p.r.getD s.g.toNat 0)):=(λc=>Or.imp (λc=>Or.imp (λc=>(c)) (λc=>(c)) (HW.1 c)) (λc=>ne_of_beq_false c) (HW.1 c)) (Eq.mp (Cn _) l);refine Ba G _ l (B (AQ G AB [(8,A 1)] λG=>AT (Cg (Ar ?_))));exact DE 1 G (AH 7) (XV (I9 AY AY) ED)
  refine B (TF G (BH (AX 3 [0,1,2,4] (PV p s.v (Fy h O)) (AX 12 [] (lQ (AR (BI p s.v) d) (p.s.getD s.g.toNat 0)) BG)) Ag []) [0,0,2,7,0,31,0,64,0,256,960,1984,4095,8191] [(3,AC a),(4,.P 7 0),(5,.P 8 0),(8,A 0),(26,.v (.bool !(Af (AR (BI p s.v) d)&&Af (p.s.getD s.g.toNat 0)&&AR (AR (BI p s.v) d) (p.s.getD s.g.toNat 0)==p.s.getD s.g.toNat 0)))] [(0:Int)<=s.g,s.g<(J p.s:Int),s.g.toNat<J p.s] ⟨((PH h O).1),((PH h O).2.1),((PH h O).2.2),Ay⟩ λG=>?_);cases j:(!(Af (AR (BI p s.v) d)&&Af (p.s.getD s.g.toNat (0:Int))&&AR (AR (BI p s.v) d) (p.s.getD s.g.toNat (0:Int))==p.s.getD s.g.toNat (0:Int)))
  ·
   have aC:(((Af (AR (BI p s.v) d))=V)/\((Af (p.s.getD s.g.toNat 0))=V))/\(AR (AR (BI p s.v) d) (p.s.getD s.g.toNat 0)=p.s.getD s.g.toNat 0):=(λc=>And.imp (λc=>And.imp (λc=>(c)) (λc=>(c)) (Gy.1 c)) (λc=>eq_of_beq c) (Gy.1 c)) (Eq.mp (Cp _) j);refine Bo G _ j (Aq (BL (B (B ?_))));cases o:(a)
   · refine AM G (CR (AS o Ag) (Ad [(2,5,0),(10,11,0),(22,22,0),(1023,1023,0)])) (AH 7) (Ji p s []) [(8,A 0),(93,AC U)] λG=>Bo G U Au (Aq (B (AQ G AB [] λG=>AT ?_)));exact DE 0 G (AH 7) (Vf (df AY AY))
   cases k:(s.t !=4)
   · have aB:=bne_eq_false_iff_eq.1 k;exact False.elim O
   have aB:=bne_iff_ne.1 k;cases C:(Cx p.s p.r (5:Nat) s.v)
   ·
    cases w:(s.t==2)
    · have X:=ne_of_beq_false w;refine AM G (BH (AX 9 [0,1,2,4] (Oe p s.v (Fy h O)) BG) (AS o (AS k (AS C (AS w Ag)))) (Ad [(2,5,0),(6,9,1),(10,10,0),(1010,1010,1),(11,11,0),(12,15,2),(16,20,3),(21,21,2),(1021,1021,3),(22,22,0),(1022,1022,2),(1023,1023,0)])) (AH 7) (Ji p s []) [(8,A 0),(93,AC U)] λG=>Bo G U Au (Aq (B (AQ G AB [] λG=>AT ?_)));exact DE 0 G (AH 7) (MI (df AY AY) (Ue LD (by exact .inr AY) LD))
    have X:=eq_of_beq w;exact False.elim O
   refine AM G (BH (AX 9 [0,1,2,4] (Oe p s.v (Fy h O)) BG) (AS o (AS k (AS C Ag))) (Ad [(2,5,0),(6,9,1),(10,10,0),(1010,1010,1),(11,11,0),(12,15,2),(21,21,2),(22,22,0),(1022,1022,2),(1023,1023,0)])) (AH 7) (Ji p s []) [(8,A 0),(93,AC V)] λG=>Ba G V Au (B (AQ G AB [(8,A 4)] λG=>AT (Ar ?_)));exact DE 4 G (AH 7) (MI (df AY AY) (VE LD O AY))
  have aC:(((Af (AR (BI p s.v) d))=U)\/((Af (p.s.getD s.g.toNat 0))=U))\/(¬(AR (AR (BI p s.v) d) (p.s.getD s.g.toNat 0)=p.s.getD s.g.toNat 0)):=(λc=>Or.imp (λc=>Or.imp (λc=>(c)) (λc=>(c)) (HW.1 c)) (λc=>ne_of_beq_false c) (HW.1 c)) (Eq.mp (Cn _) j);refine Ba G _ j (B (AQ G AB [(8,A 1)] λG=>AT (Cg (Ar ?_))));exact DE 1 G (AH 7) (XV (vl AY AY) ED)
def Fh(F:Nat->AG->Int×Nat):Nat->List AG->Int×Nat
 |c,[]=>(0,c)
 |c,s::r=>if(F c s).1=0 then Fh F (F c s).2 r else F c s
def EM(p:BE)(s:AG)(a:Int):Int:=if s.t=3 then AR a (BI p s.v)else a
def Io(p:BE)(a:Bool):Nat->Int->Nat->AG->Int×Nat
  |0,_,c,_=>(0,c)
  | d + 1, f, c, s => if Ff p s f a = 0 then
      (if(Fh (Io p a d (EM p s f)) (c+1) s.b).1=0 then Fh (Io p a d (EM p s f)) (Fh (Io p a d (EM p s f)) (c+1) s.b).2 s.e
       else Fh (Io p a d (EM p s f)) (c+1) s.b)
    else(Ff p s f a,c)
abbrev BO(p:BE)(a:Bool)(d:Nat)(e:Int)(c:Nat)(b:List AG):Int×Nat:=Fh (Io p a d e) c b
theorem gA(F):∀a b c,Fh F c (a++b)=if(Fh F c a).1=0 then Fh F (Fh F c a).2 b else Fh F c a
 |[],b,c=>by simp[Fh]
 |x::r,b,c=>by
  simp only[IR,Fh];by_cases h:(F c x).1=0
  ·simp only[h,if_true];exact gA F r b _
  simp[h]
theorem Wn{F}{c k}{a}(h:(Fh F c (a.take k)).1=0)(b:k<J a):Fh F c (a.take (k+1))=F (Fh F c (a.take k)).2 (a.getD k K):=by
 rw[Gr _ _ b,gA,AZ h,DU b];simp only[Fh];split
 ·rename_i h;exact Prod.ext h.symm rfl
 rfl
theorem Np{F}{c k}{a}(h:(Fh F c (a.take k)).1=0)(b:k<J a)(d:¬(F (Fh F c (a.take k)).2 (a.getD k K)).1=0):Fh F c a=F (Fh F c (a.take k)).2 (a.getD k K):=by
 conv=>lhs;rw[<-List.take_append_drop (k+1) a]
 rw[gA,Wn h b,AO d]
theorem mH{F}{c k}{a}(b:J a<=k):Fh F c a=Fh F c (a.take k):=by rw[Dq b]
theorem XS{F}(b:∀c s,(F c s).2<=c+Gn s):∀a c,(Fh F c a).2<=c+CP a
 |[],c=>by simp[Fh]
 |s::r,c=>by
  simp only[Fh,CP];have d:=b c s;have e:=XS b r (F c s).2;split<;>omega
theorem fd{p}{strict}:∀d f c s,(Io p strict d f c s).2<=c+Gn s
 |0,_,c,s=>by simp[Io]
 |d+1,f,c,s=>by
  have i:=PW s;have g:=XS (fd (p:=p) (strict:=strict) d (EM p s f)) s.b (c+1);have h:=XS (fd (p:=p) (strict:=strict) d (EM p s f)) s.e (Fh (Io p strict d (EM p s f)) (c+1) s.b).2;rw[Io];split
  ·split<;>omega
  simp only;omega
theorem kU{p}{strict}{d}{pc}{c}{ss}:(BO p strict d pc c ss).2<=c+CP ss:=XS (fd d pc) ss c
theorem GV{c f d k}{a}(i:a.all (Ax c f (d+1))=V)(g:k<J a):EE c f (a.getD k K)=V/\(a.getD k K).b.all (Ax c f d)=V/\(a.getD k K).e.all (Ax c f d)=true:=by
 have h:=Bt.1 i _ (EL g);rw[Lu,Aj,Aj]at h;rw[DU g];exact h
theorem WN{k}{ss}(c:k<J ss):CP (ss.take k)+(1+CP (ss.getD k K).b+CP (ss.getD k K).e)<=CP ss:=by
 have d:=vZ c;have f:=I5 ss (k+1);rw[PW]at d;rw[DU c];omega
section
variable{p:BE}{strict:Bool}{d c:Nat}{pc:Int}{s:AG}
theorem Xx(h:¬Ff p s pc strict=0):Io p strict (d+1) pc c s=(Ff p s pc strict,c):=by rw[Io,AO h]
theorem Qb{x}(h:Ff p s pc strict=0)(a:EM p s pc=x)(e:¬(BO p strict d x (c+1) s.b).1=0):Io p strict (d+1) pc c s=BO p strict d x (c+1) s.b:=by
 subst a;rw[Io,AZ h,AO e]
theorem Mi{x}(h:Ff p s pc strict=0)(a:EM p s pc=x)(f:(BO p strict d x (c+1) s.b).1=0):Io p strict (d+1) pc c s=BO p strict d x (BO p strict d x (c+1) s.b).2 s.e:=by
 subst a;rw[Io,AZ h,AZ f]
theorem Nu(k:s.t=3):EM p s pc=AR pc (BI p s.v):=AZ k
theorem Ny(k:¬s.t=3):EM p s pc=pc:=AO k
end
theorem ic{p}{strict}{d k c}{pc}{e}(j:c+CP e<=4000000)(g:k<J e):(BO p strict (d+1) pc c (e.take k)).2+1+CP (e.getD k K).b<=4000000:=by
 have h:=WN (k:=k) (ss:=e) g;have i:=kU (p:=p) (strict:=strict) (d:=d+1) (pc:=pc) (c:=c) (ss:=e.take k);omega
theorem oQ{p}{a}{d k c}{g x}{f}(m:c+CP f<=4000000)(h:k<J f):(BO p a d x ((BO p a (d+1) g c (f.take k)).2+1) (f.getD k K).b).2+CP (f.getD k K).e<=4000000:=by
 have i:=WN (k:=k) (ss:=f) h;have l:=kU (p:=p) (strict:=a) (d:=d+1) (pc:=g) (c:=c) (ss:=f.take k);have j:=kU (p:=p) (strict:=a) (d:=d) (pc:=x) (c:=(BO p a (d+1) g c (f.take k)).2+1) (ss:=(f.getD k K).b);omega
theorem zY{p}{a}{d k c}{e}{b}(g:c+CP b<=4000000)(f:k<J b):IntKind.i64.wrap (((BO p a (d+1) e c (b.take k)).2)+1)=((BO p a (d+1) e c (b.take k)).2)+1:=by
 have h:=ic (p:=p) (strict:=a) (d:=d) (pc:=e) g f;exact Kp O O
abbrev ai(p:BE)(d:Nat)(b:List AG)(e:Int)(c:Nat)(a:Bool):AN:=CJ 176 [Ao 0,.N 3,A e,A c,AC a] (Be p++[.G (.M b)]) (.T [A (BO p a d e c b).1,A (BO p a d e c b).2])
theorem ad6(p)(e)(c)(d):AN.ok prog (ai p 0 [] e c d):=by
 refine BP 74 func176 [W p.s,W p.r,AE p.b,AE []] [(0,Ao 0),(1,.N 3),(2,A e),(3,A c),(4,AC d)] λG=>?_;refine B (AM G AB (AH 5) [W p.s,W p.r,AE p.b,AE [],.C (Al 0)] [(1,.N 3),(2,A e),(3,A c),(4,AC d),(5,.P 4 0),(10,A 0),(11,A 0)] λG=>B (B (BS G AB [(1,.N 3),(2,A e),(3,A c),(4,AC d),(5,.P 4 0),(10,A 0),(11,A 0),(12,A 0)] λG=>BN ?_)));refine DR (h:=Nat) (λk=>k=0) (λk=>0) (λk=>[W p.s,W p.r,AE p.b,AE [],.C (Al 0)]) (λk=>[(1,.N 3),(2,A e),(3,A c),(4,AC d),(5,.P 4 0),(10,A 0),(11,A 0),(12,A 0)]) 0 Au (Ap.at G _ _) ?_;clear G;intro k g a w f G;refine B (B (AQ G AB [(19,AC U)] λG=>Bo G U Au (wp_exit (Bd (Bd (DG (B (AM G AB (AH 4) [W p.s,W p.r,AE p.b,AE []] [(10,A 0),(11,A c)] λG=>AT ?_))))))));exact Br G (AH 4)
abbrev OK(p:BE)(d:Nat)(a:Bool)(e:List AG)(f:Int)(c:Nat)(k:Nat):=BO p a d (AR f (BI p (e.getD k K).v)) ((BO p a (d+1) f c (Ae k e)).2+1) (e.getD k K).b
abbrev LU(p:BE)(d:Nat)(a:Bool)(e:List AG)(f:Int)(c:Nat)(k:Nat):=BO p a d f ((BO p a (d+1) f c (Ae k e)).2+1) (e.getD k K).b
abbrev XG(p:BE)(d:Nat)(a:Bool)(b:List AG)(f:Int)(c:Nat)(k:Nat):=BO p a d (AR f (BI p (b.getD k K).v)) (OK p d a b f c k).2 (b.getD k K).e
abbrev Un(a:Bool)(k:Nat)(b:List (Nat×AA)):List (Nat×AA):=(4,AC a)::(5,.P 4 0)::(10,A 0)::(11,A 0)::(12,A (k:Int))::b
abbrev Rf(p:BE)(a:List AG)(c:List AI):List AI:=W p.s::W p.r::AE p.b::AE a::.C (Al 0)::c
theorem uv(p)(d)(f)(q:∀g h c,g.all (Ax (J p.s) (J p.r) d)=V->c+CP g<=4000000->AN.ok prog (ai p d g h c f))
    (g) (h) (c) (n:g.all (Ax (J p.s) (J p.r) (d+1))=V) (o:c+CP g<=4000000):AN.ok prog (ai p (d+1) g h c f):=by
  refine BP 74 func176 [W p.s,W p.r,AE p.b,AE g] [(0,Ao 0),(1,.N 3),(2,A h),(3,A c),(4,AC f)] λG=>?_;have z:J g<=9223372036854775807:=G.len 3 (d:=.M g) Au;refine B (AM G AB (AH 5) (Rf p g []) [(1,.N 3),(2,A h),(3,A c),(4,AC f),(5,.P 4 0),(10,A 0),(11,A 0)] λG=>B (B (BS G AB [(1,.N 3),(2,A h),(3,A c),(4,AC f),(5,.P 4 0),(10,A 0),(11,A 0),(12,A 0)] λG=>BN ?_)));refine DR (h:=Nat) (λk=>k<=J g/\(BO p f (d+1) h c (g.take k)).1=0) (λk=>J g-k) (λk=>[W p.s,W p.r,AE p.b,AE g,.C (Al 0)]) (λk=>[(1,.N 3),(2,A h),(3,A (BO p f (d+1) h c (g.take k)).2),(4,AC f),(5,.P 4 0),(10,A 0),(11,A 0),(12,A k)]) 0 (⟨Di _,rfl⟩) (Ap.at G _ _) ?_;clear G;intro k ρ a w m G;replace G:=Ap.at G (Rf p g []) ((1,.N 3)::(2,A h)::(3,A ((BO p f (d+1) h c (Ae k g)).2:Int))::(Un f k []));refine B (B (AQ G AB [(19,AC (Y ((k:Int)<J g)))] λG=>DZ G (λh0 H=>?_) λh0 H=>?_))
  · refine wp_exit (Bd (Bd (DG (B (AM G AB (AH 4) [W p.s,W p.r,AE p.b,AE g] [(10,A 0),(11,A ((BO p f (d+1) h c (Ae k g)).2:Int))] λG=>AT ?_)))));exact Cr (.T [A 0,A ((BO p f (d+1) h c (Ae k g)).2:Int)]) G (AH 4) (by have j:((BO p f (d+1) h c g).1:Int)=(0):=(by rw[BO,mH (k:=k) O];exact m.2);have l:(((BO p f (d+1) h c g).2:Int):Int)=(((BO p f (d+1) h c (Ae k g)).2:Int)):=(by rw[BO,mH (k:=k) O]);(first|rw[j,l]|simp only[j,l])<;>rfl)
  refine Aq (B (BN (B (CT G AB [0,1,2,3,4,29,30,31,32,37] (Rf p g [AP (g.getD k K).i.k,AP (g.getD k K).v.k,AE (g.getD k K).b,AE (g.getD k K).e,.C (Ct (g.getD k K) 5)]) ((1,.N 3)::(2,A h)::(3,A ((BO p f (d+1) h c (Ae k g)).2:Int))::(Un f k [(13,.P 9 0)])) (CD k k (J g) []) (CE O Ay) λG=>B (AQ G (Ai 4 [0,1,2,5,6,7,8] (wB p (g.getD k K) h f ((GV n O).1))) [(14,A (Ff p (g.getD k K) h f))] λG=>B (B (AQ G AB [(32,AC (Ff p (g.getD k K) h f !=0))] λG=>IP G (λQ L=>?_) λQ L=>?_)))))))
  ·
   refine Aq (B (Bi G AB [(3,A (((BO p f (d+1) h c (Ae k g)).2:Int)+1))] [BC (((BO p f (d+(1:Nat)) h c (Ae k g)).2:Int)+1)] ⟨(zY o O),Ay⟩ λG=>B (AQ G AB [(15,A h)] λG=>B (B (AQ G AB [(40,AC ((g.getD k K).t==3))] λG=>Cu G (λT M=>?_) λT M=>?_)))))
   ·
    refine Aq (B (AQ G (Ai 6 [0,1,2,7] (q ((g.getD k K).b) h ((BO p f (d+1) h c (Ae k g)).2+1) ((GV n O).2.1) (ic o O))) [(3,A ((LU p d f g h c k).2:Int)),(14,A (LU p d f g h c k).1)] λG=>B (B (AQ G AB [(58,AC ((LU p d f g h c k).1==0))] λG=>Cu (u:=((BO p f d h ((BO p f (d+(1:Nat)) h c (Ae k g)).2+(1:Nat)) (g.getD k K).b).1)) (v:=(0:Int)) G (λC X=>?_) λC X=>?_))))
    ·
     refine Aq (B (AM G AB (AH 5) (Rf p g []) ((1,.N 3)::(2,A h)::(3,A ((LU p d f g h c k).2:Int))::(Un f k [(14,A (LU p d f g h c k).1),(70,AC ((LU p d f g h c k).1 !=0))])) λG=>?_));cases x:((BO p f d h ((BO p f (d+(1:Nat)) h c (Ae k g)).2+(1:Nat)) (g.getD k K).b).1 !=0)
     · have P:=bne_eq_false_iff_eq.1 x;exact False.elim O
     have P:=bne_iff_ne.1 x;refine Ba G _ x (B (AQ G AB [(10,A (LU p d f g h c k).1),(11,A ((LU p d f g h c k).2:Int))] λG=>AT (Cg (Ar (Ar (Cg (Ar ?_)))))));exact Cr (.T [A (BO p f d h ((BO p f (d+1) h c (Ae k g)).2+1) (g.getD k K).b).1,A ((BO p f d h ((BO p f (d+1) h c (Ae k g)).2+1) (g.getD k K).b).2:Int)]) G (AH 4) (by have j:((BO p f (d+1) h c g).1:Int)=((BO p f d h ((BO p f (d+1) h c (Ae k g)).2+1) (g.getD k K).b).1):=(by rw[BO,Np m.2 O (by rw[Qb AY (Ny AY) AY];with_reducible assumption),Qb AY (Ny AY) AY]);have l:(((BO p f (d+1) h c g).2:Int):Int)=(((BO p f d h ((BO p f (d+1) h c (Ae k g)).2+1) (g.getD k K).b).2:Int)):=(by rw[BO,Np m.2 O (by rw[Qb AY (Ny AY) AY];with_reducible assumption),Qb AY (Ny AY) AY]);(first|rw[j,l]|simp only[j,l])<;>rfl)
    refine AM G (Ai 6 [0,1,2,8] (q ((g.getD k K).e) h ((LU p d f g h c k).2) ((GV n O).2.2) (oQ o O))) (AH 5) (Rf p g []) ((1,.N 3)::(2,A h)::(3,A ((BO p f d h (LU p d f g h c k).2 (g.getD k K).e).2:Int))::(Un f k [(14,A (BO p f d h (LU p d f g h c k).2 (g.getD k K).e).1)])) λG=>B (AQ G AB [(70,AC ((BO p f d h (LU p d f g h c k).2 (g.getD k K).e).1 !=0))] λG=>IP (u:=((BO p f d h (BO p f d h ((BO p f (d+(1:Nat)) h c (Ae k g)).2+(1:Nat)) (g.getD k K).b).2 (g.getD k K).e).1)) (v:=(0:Int)) G (λD N=>?_) λD N=>?_)
    · refine Aq (BL (Bi G AB [(12,A ((k:Int)+1))] [BC ((k:Int)+1)] (BA O) λG=>?_));exact Ce G (k+1) (⟨O,by rw[BO,Wn m.2 O,Mi AY (Ny AY) AY];with_reducible assumption⟩) O (AH 5) (ht:=by have j:(((BO p f (d+1) h c (Ae (k+1) g)).2:Int):Int)=(((BO p f d h (BO p f d h ((BO p f (d+1) h c (Ae k g)).2+1) (g.getD k K).b).2 (g.getD k K).e).2:Int)):=(by rw[BO,Wn m.2 O,Mi AY (Ny AY) AY]);(first|rw[j]|simp only[j])<;>rfl)
    refine B (AQ G AB [(10,A (BO p f d h (LU p d f g h c k).2 (g.getD k K).e).1),(11,A ((BO p f d h (LU p d f g h c k).2 (g.getD k K).e).2:Int))] λG=>AT (Cg (Ar (Ar (Cg (Ar ?_))))));exact Cr (.T [A (BO p f d h (BO p f d h ((BO p f (d+1) h c (Ae k g)).2+1) (g.getD k K).b).2 (g.getD k K).e).1,A ((BO p f d h (BO p f d h ((BO p f (d+1) h c (Ae k g)).2+1) (g.getD k K).b).2 (g.getD k K).e).2:Int)]) G (AH 4) (by have j:((BO p f (d+1) h c g).1:Int)=((BO p f d h (BO p f d h ((BO p f (d+1) h c (Ae k g)).2+1) (g.getD k K).b).2 (g.getD k K).e).1):=(by rw[BO,Np m.2 O (by rw[Mi AY (Ny AY) AY];with_reducible assumption),Mi AY (Ny AY) AY]);have l:(((BO p f (d+1) h c g).2:Int):Int)=(((BO p f d h (BO p f d h ((BO p f (d+1) h c (Ae k g)).2+1) (g.getD k K).b).2 (g.getD k K).e).2:Int)):=(by rw[BO,Np m.2 O (by rw[Mi AY (Ny AY) AY];with_reducible assumption),Mi AY (Ny AY) AY]);(first|rw[j,l]|simp only[j,l])<;>rfl)
   refine AQ G (Ai 4 [0,1,2,6] (PV p ((g.getD k K).v) (Fy (GV n O).1 O))) [(15,A (AR h (BI p (g.getD k K).v)))] λG=>B (AQ G (Ai 6 [0,1,2,7] (q ((g.getD k K).b) (AR h (BI p (g.getD k K).v)) ((BO p f (d+1) h c (Ae k g)).2+1) ((GV n O).2.1) (ic o O))) [(3,A ((OK p d f g h c k).2:Int)),(14,A (OK p d f g h c k).1)] λG=>B (B (AQ G AB [(58,AC ((OK p d f g h c k).1==0))] λG=>Cu (u:=((BO p f d (AR h (BI p (g.getD k K).v)) ((BO p f (d+(1:Nat)) h c (Ae k g)).2+(1:Nat)) (g.getD k K).b).1)) (v:=(0:Int)) G (λF S=>?_) λF S=>?_)))
   ·
    refine Aq (B (AM G AB (AH 5) (Rf p g []) ((1,.N 3)::(2,A h)::(3,A ((OK p d f g h c k).2:Int))::(Un f k [(14,A (OK p d f g h c k).1),(70,AC ((OK p d f g h c k).1 !=0))])) λG=>?_));cases y:((BO p f d (AR h (BI p (g.getD k K).v)) ((BO p f (d+(1:Nat)) h c (Ae k g)).2+(1:Nat)) (g.getD k K).b).1 !=0)
    · have q7:=bne_eq_false_iff_eq.1 y;exact False.elim O
    have q7:=bne_iff_ne.1 y;refine Ba G _ y (B (AQ G AB [(10,A (OK p d f g h c k).1),(11,A ((OK p d f g h c k).2:Int))] λG=>AT (Cg (Ar (Ar (Cg (Ar ?_)))))));exact Cr (.T [A (BO p f d (AR h (BI p (g.getD k K).v)) ((BO p f (d+1) h c (Ae k g)).2+1) (g.getD k K).b).1,A ((BO p f d (AR h (BI p (g.getD k K).v)) ((BO p f (d+1) h c (Ae k g)).2+1) (g.getD k K).b).2:Int)]) G (AH 4) (by have j:((BO p f (d+1) h c g).1:Int)=((BO p f d (AR h (BI p (g.getD k K).v)) ((BO p f (d+1) h c (Ae k g)).2+1) (g.getD k K).b).1):=(by rw[BO,Np m.2 O (by rw[Qb AY (Nu AY) AY];with_reducible assumption),Qb AY (Nu AY) AY]);have l:(((BO p f (d+1) h c g).2:Int):Int)=(((BO p f d (AR h (BI p (g.getD k K).v)) ((BO p f (d+1) h c (Ae k g)).2+1) (g.getD k K).b).2:Int)):=(by rw[BO,Np m.2 O (by rw[Qb AY (Nu AY) AY];with_reducible assumption),Qb AY (Nu AY) AY]);(first|rw[j,l]|simp only[j,l])<;>rfl)
   refine AM G (Ai 6 [0,1,2,8] (q ((g.getD k K).e) (AR h (BI p (g.getD k K).v)) ((OK p d f g h c k).2) ((GV n O).2.2) (oQ o O))) (AH 5) (Rf p g []) ((1,.N 3)::(2,A h)::(3,A ((XG p d f g h c k).2:Int))::(Un f k [(14,A (XG p d f g h c k).1)])) λG=>B (AQ G AB [(70,AC ((XG p d f g h c k).1 !=0))] λG=>IP (u:=((BO p f d (AR h (BI p (g.getD k K).v)) (BO p f d (AR h (BI p (g.getD k K).v)) ((BO p f (d+(1:Nat)) h c (Ae k g)).2+(1:Nat)) (g.getD k K).b).2 (g.getD k K).e).1)) (v:=(0:Int)) G (λR E=>?_) λR E=>?_)
   · refine Aq (BL (Bi G AB [(12,A ((k:Int)+1))] [BC ((k:Int)+1)] (BA O) λG=>?_));exact Ce G (k+1) (⟨O,by rw[BO,Wn m.2 O,Mi AY (Nu AY) AY];with_reducible assumption⟩) O (AH 5) (ht:=by have j:(((BO p f (d+1) h c (Ae (k+1) g)).2:Int):Int)=(((BO p f d (AR h (BI p (g.getD k K).v)) (BO p f d (AR h (BI p (g.getD k K).v)) ((BO p f (d+1) h c (Ae k g)).2+1) (g.getD k K).b).2 (g.getD k K).e).2:Int)):=(by rw[BO,Wn m.2 O,Mi AY (Nu AY) AY]);(first|rw[j]|simp only[j])<;>rfl)
   refine B (AQ G AB [(10,A (XG p d f g h c k).1),(11,A ((XG p d f g h c k).2:Int))] λG=>AT (Cg (Ar (Ar (Cg (Ar ?_))))));exact Cr (.T [A (BO p f d (AR h (BI p (g.getD k K).v)) (BO p f d (AR h (BI p (g.getD k K).v)) ((BO p f (d+1) h c (Ae k g)).2+1) (g.getD k K).b).2 (g.getD k K).e).1,A ((BO p f d (AR h (BI p (g.getD k K).v)) (BO p f d (AR h (BI p (g.getD k K).v)) ((BO p f (d+1) h c (Ae k g)).2+1) (g.getD k K).b).2 (g.getD k K).e).2:Int)]) G (AH 4) (by have j:((BO p f (d+1) h c g).1:Int)=((BO p f d (AR h (BI p (g.getD k K).v)) (BO p f d (AR h (BI p (g.getD k K).v)) ((BO p f (d+1) h c (Ae k g)).2+1) (g.getD k K).b).2 (g.getD k K).e).1):=(by rw[BO,Np m.2 O (by rw[Mi AY (Nu AY) AY];with_reducible assumption),Mi AY (Nu AY) AY]);have l:(((BO p f (d+1) h c g).2:Int):Int)=(((BO p f d (AR h (BI p (g.getD k K).v)) (BO p f d (AR h (BI p (g.getD k K).v)) ((BO p f (d+1) h c (Ae k g)).2+1) (g.getD k K).b).2 (g.getD k K).e).2:Int)):=(by rw[BO,Np m.2 O (by rw[Mi AY (Nu AY) AY];with_reducible assumption),Mi AY (Nu AY) AY]);(first|rw[j,l]|simp only[j,l])<;>rfl)
  refine B (AQ G AB [(10,A (Ff p (g.getD k K) h f)),(11,A ((BO p f (d+1) h c (Ae k g)).2:Int))] λG=>AT (Ar (Cg (Ar (Ar (Cg (Ar ?_)))))));exact Cr (.T [A (Ff p (g.getD k K) h f),A ((BO p f (d+1) h c (Ae k g)).2:Int)]) G (AH 4) (by have j:((BO p f (d+1) h c g).1:Int)=(Ff p (g.getD k K) h f):=(by rw[BO,Np m.2 O (by rw[Xx AY];with_reducible assumption),Xx AY]);have l:(((BO p f (d+1) h c g).2:Int):Int)=(((BO p f (d+1) h c (Ae k g)).2:Int)):=(by rw[BO,Np m.2 O (by rw[Xx AY];with_reducible assumption),Xx AY]);(first|rw[j,l]|simp only[j,l])<;>rfl)
theorem yd(p)(a):∀d b e c,b.all (Ax (J p.s) (J p.r) d)=V->c+CP b<=4000000->AN.ok prog (ai p d b e c a):=by
 intro d;induction d with
 |zero=>
  intro b e c h f;cases b with
  |nil=>exact ad6 p e c a
  |cons s r=>simp[Ax]at h
 |succ d g=>intro b e c h f;exact uv p d a g b e c h f
theorem QR{p}(h:BZ p=V):p.b.all (Ax (J p.s) (J p.r) 5)=V/\CP p.b<=60:=by
 simp only[BZ,MG,Aj,decide_eq_true_eq]at h;exact⟨h.1.2,h.2⟩
theorem H1(p)(a)(h:BZ p=V):AN.ok prog (CJ 176 [Ao 0,.N 2,A 0,A 0,AC a] (Be p) (.T [A (BO p a 5 0 0 p.b).1,A (BO p a 5 0 0 p.b).2])):=
 AN.dup (S:=Be p) (S':=Be p) (d:=.M p.b) (i:=2) (yd p a 5 p.b 0 0 (QR h).1 (by have:=(QR h).2;omega)) rfl rfl rfl (λc h=>by simp only[AA.vals,AA.val];rw[show c 3=c 2 from h];rfl) rfl
def DD(p:BE)(a:Bool):Int×Int:=if BZ p then(if(BO p a 5 0 0 p.b).1=0 then(0,-1)else((BO p a 5 0 0 p.b).1,((BO p a 5 0 0 p.b).2:Int)))else(5,-1)
def UP(p:BE):Int×Int:=if(DD p U).1=0 then DD p V else DD p U
section
variable{p:BE}{strict:Bool}
theorem ZU(h:BZ p=U):DD p strict=(5,-1):=by rw[DD,h];rfl
theorem oE(h:BZ p=V)(a:(BO p strict 5 0 0 p.b).1=0):DD p strict=(0,-1):=by rw[DD,h,a];rfl
theorem pw(h:BZ p=V)(a:¬(BO p strict 5 0 0 p.b).1=0):DD p strict=((BO p strict 5 0 0 p.b).1,((BO p strict 5 0 0 p.b).2:Int)):=by rw[DD,h,AO a];rfl
end
theorem yP(p)(a)(i:Ah p.b<=1048576):AN.ok prog (CJ 131 [Ao 0,AC a] (Be p) (.T [A (DD p a).1,A (DD p a).2])):=by
  refine BP 24 func131 [W p.s,W p.r,AE p.b] [(0,Ao 0),(1,AC a)] λG=>?_;refine B (AM G AB (AH 4) [W p.s,W p.r,AE p.b,.C (Al 0)] [(1,AC a),(2,.P 3 0),(4,A 0),(5,A 0)] λG=>B (B (AQ G (Ai 1 [0,1,2] (Zf p Ab)) [(10,.v (.bool !BZ p))] λG=>?_)));cases e:(!BZ p)
  ·
   have h:(BZ p)=true:=(Eq.mp (Cp _) e);refine Bo G _ e (Aq (B (AM G (Ai 4 [0,1,2] (H1 p a Ab)) [0,1,2] [W p.s,W p.r,AE p.b] [(4,A 0),(5,A 0),(6,A (BO p a 5 0 0 p.b).1),(7,A ((BO p a 5 0 0 p.b).2:Int))] λG=>B (B (AQ G AB [(20,AC ((BO p a 5 0 0 p.b).1==0))] λG=>Cu G (λf g=>?_) λf g=>?_)))))
   · refine Aq (B (AQ G AB [(4,A (BO p a 5 0 0 p.b).1),(5,A ((BO p a 5 0 0 p.b).2:Int))] λG=>AT ?_));exact Cr (.T [A (BO p a 5 0 0 p.b).1,A ((BO p a 5 0 0 p.b).2:Int)]) G [0,1,2] (by have d:((DD p a).1:Int)=((BO p a 5 0 0 p.b).1):=(by rw[pw Ab Ab];done);have c:((DD p a).2:Int)=(((BO p a 5 0 0 p.b).2:Int)):=(by rw[pw Ab Ab];done);(first|rw[d,c]|simp only[d,c])<;>rfl)
   refine B (AQ G AB [(4,A (BO p a 5 0 0 p.b).1),(5,A (-1))] λG=>AT (Ar ?_));exact Cr (.T [A (BO p a 5 0 0 p.b).1,A (-1)]) G [0,1,2] (by have d:((DD p a).1:Int)=((BO p a 5 0 0 p.b).1):=((congrArg Prod.fst (oE Ab Ab)).trans (Eq.symm Ab));have c:((DD p a).2:Int)=(-1):=(by rw[oE Ab Ab];done);(first|rw[d,c]|simp only[d,c])<;>rfl)
  have h:(BZ p)=false:=(Eq.mp (Cn _) e);refine Ba G _ e (B (AQ G AB [(4,A 5),(5,A (-1))] λG=>AT (Ar ?_)));exact Cr (.T [A 5,A (-1)]) G [0,1,2] (by have d:((DD p a).1:Int)=(5):=(by rw[ZU Ab];done);have c:((DD p a).2:Int)=(-1):=(by rw[ZU Ab];done);(first|rw[d,c]|simp only[d,c])<;>rfl)
theorem y9(p)(a:Ah p.b<=1048576):AN.ok prog (CJ 89 [Ao 0] (Be p) (.T [A (DD p U).1,A (DD p U).2])):=by
 refine BP 8 func89 [W p.s,W p.r,AE p.b] [(0,Ao 0)] λG=>?_;refine B (AM G AB (AH 4) [W p.s,W p.r,AE p.b,.C (Al 0)] [(1,.P 3 0),(2,A 0),(3,A 0)] λG=>B (AM G (Ai 1 [0,1,2] (yP p U Ab)) [0,1,2] [W p.s,W p.r,AE p.b] [(2,A (DD p U).1),(3,A (DD p U).2)] λG=>AT ?_));exact Br G [0,1,2]
theorem Ts(p)(e)(a:As (J p.s) (J p.r) 5 e=V):AN.ok prog (CJ 104 [Ao 0,Dc e 3] (Be p++Em e) (A (BI p e))):=l0 p 5 e a
def Jl(p:BE)(s:AG)(a:Int):Int:=if s.t=2 then AR (AR (BI p s.v) a) (BI p s.i)else AR (BI p s.v) a
def GM(p:BE)(s:AG)(a:Int):Int:=
 if s.t=1 then if Ix (AR (BI p s.v) a) (p.s.getD s.g.toNat 0)=0 then 0 else 1
 else if s.t=2 then if Ix (AR (AR (BI p s.v) a) (BI p s.i)) (p.r.getD s.g.toNat 0)=0 then 0 else 1
 else if s.t=5 then if(Af (BI p s.v)&&Y (BI p s.v<=1))=V/\a=0 then 0 else 2
 else 0
theorem gV{p}{s}{a}(k:¬s.t=2):Jl p s a=AR (BI p s.v) a:=AO k
theorem fG{p}{s}{a}(k:s.t=2):Jl p s a=AR (AR (BI p s.v) a) (BI p s.i):=AZ k
section
variable{p:BE}{s:AG}{cx:Int}
theorem yD(k:s.t=1)(h:(!(Ix (Jl p s cx) (p.s.getD s.g.toNat 0)==0))=U):GM p s cx=0:=by
 rw[gV O]at h;rw[GM,AZ k,AZ (by simpa using h)]
theorem ad0(k:s.t=1)(h:(!(Ix (Jl p s cx) (p.s.getD s.g.toNat 0)==0))=V):GM p s cx=1:=by
 rw[gV O]at h;rw[GM,AZ k,AO (by simpa using h)]
theorem R1(k:s.t=2)(h:(!(Ix (Jl p s cx) (p.r.getD s.g.toNat 0)==0))=U):GM p s cx=0:=by
 rw[fG k]at h;rw[GM,AO O,AZ k,AZ (by simpa using h)]
theorem zt(k:s.t=2)(h:(!(Ix (Jl p s cx) (p.r.getD s.g.toNat 0)==0))=V):GM p s cx=1:=by
 rw[fG k]at h;rw[GM,AO O,AZ k,AO (by simpa using h)]
theorem zm(k:s.t=5)(h:(!(Af (BI p s.v)&&Y (BI p s.v<=1)))=U)(a:cx=0):GM p s cx=0:=by
 rw[Cp]at h;rw[GM,AO O,AO O,AZ k,AZ ⟨h,a⟩]
theorem mh(k:s.t=5)(h:(!(Af (BI p s.v)&&Y (BI p s.v<=1)))=V\/¬cx=0):GM p s cx=2:=by
 rw[GM,AO O,AO O,AZ k,AO];rintro⟨a,b⟩;rcases h with h|h
 ·rw[a]at h;cases h
 exact h b
theorem Z4(k:¬s.t=1/\¬s.t=2/\¬s.t=5):GM p s cx=0:=by rw[GM,AO k.1,AO k.2.1,AO k.2.2]
end
theorem lU(p)(s)(a)(h:EE (J p.s) (J p.r) s=V)(f:¬s.t=4):AN.ok prog (CJ 150 [Ao 0,Fw s 3,A a] (Be p++ID s) (A (Jl p s a))):=by
 refine BP 24 func150 [W p.s,W p.r,AE p.b,AP s.i.k,AP s.v.k,AE s.b,AE s.e] [(0,Ao 0),(1,Fw s 3),(2,A a)] λG=>?_;refine B (AM G AB [0,1,2,3,4,5,6,7,15] [W p.s,W p.r,AE p.b,AP s.i.k,AP s.v.k,AE s.b,AE s.e,.C (Al 0),.C (Ct s 3)] [(2,A a),(3,.P 7 0),(4,.P 8 0),(6,A 0)] λG=>B (AQ G (Ai 3 [0,1,2,4] (Ts p s.v (Fy h O))) [(7,A (AR (BI p s.v) a))] λG=>B (B (AQ G AB [(16,AC (s.t==2))] λG=>Cu G (λc d=>?_) λc d=>?_))))
 ·refine Aq (B (AM G AB (AH 7) [W p.s,W p.r,AE p.b,AP s.i.k,AP s.v.k,AE s.b,AE s.e] [(6,A (AR (BI p s.v) a))] λG=>AT ?_));exact DE (AR (BI p s.v) a) G (AH 7) (gV Ab)
 refine AM G (Ai 4 (AH 4) (Ts p s.i (WX h Ab))) (AH 7) [W p.s,W p.r,AE p.b,AP s.i.k,AP s.v.k,AE s.b,AE s.e] [(6,A 0),(7,A (AR (AR (BI p s.v) a) (BI p s.i)))] λG=>B (AQ G AB [(6,A (AR (AR (BI p s.v) a) (BI p s.i)))] λG=>AT ?_);exact DE (AR (AR (BI p s.v) a) (BI p s.i)) G (AH 7) (fG Ab)
abbrev PI(p:BE)(s:AG)(a:List AI):List AI:=W p.s::W p.r::AE p.b::AP s.i.k::AP s.v.k::AE s.b::AE s.e::a
theorem ym(p)(s)(a)(h:EE (J p.s) (J p.r) s=V):AN.ok prog (CJ 100 [Ao 0,Fw s 3,A a] (Be p++ID s) (A (GM p s a))):=by
  refine BP 59 func100 (PI p s []) [(0,Ao 0),(1,Fw s 3),(2,A a)] λG=>?_;refine B (AM G AB [0,1,2,3,4,5,6,7,15] (PI p s [.C (Al 0),.C (Ct s 3)]) [(2,A a),(3,.P 7 0),(4,.P 8 0),(6,A 0)] λG=>B (BN (B ?_)));cases j:(s.t==1)
  ·
   have o:=ne_of_beq_false j;refine NK G (CR (AS j Ag) (Ad [(4,15,0),(1016,1016,0)])) [0,1,3,7,15,15,15,127,15,271,15,1039,3855,7951,16383,32767,65535,131071] [(7,AC U)] λG=>Bo G U Au (B ?_);cases d:(s.t==2)
   ·
    have x:=ne_of_beq_false d;refine NK G (CR (AS d Ag) (Ad [(4,15,0),(1016,1016,0)])) [0,1,3,7,15,15,15,127,15,271,15,1039,3855,7951,16383,32767,65535,131071] [(25,AC U)] λG=>Bo G U Au (B ?_);cases c:(s.t==5)
    · have z:=ne_of_beq_false c;refine AM G (CR (AS c Ag) (Ad [(4,10,0),(13,13,0),(1014,1014,0)])) (AH 7) (PI p s []) [(6,A 0),(43,AC U)] λG=>Bo G U Au (Aq (BL (B (AQ G AB [] λG=>AT ?_))));exact DE 0 G (AH 7) (Z4 O)
    have z:=eq_of_beq c;cases f:(!(Af (BI p s.v)&&Y (BI p s.v<=1)))
    ·
     have q:((Af (BI p s.v))=V)/\(BI p s.v<=1):=(λb=>And.imp (λb=>(b)) (λb=>of_decide_eq_true b) (Gy.1 b)) (Eq.mp (Cp _) f);refine AM G (BH (AX 7 [0,1,2,4] (Ts p s.v (Fy h O)) (AX 8 [] (lu (BI p s.v)) BG)) (AS c (AS f Ag)) (Ad [(4,10,0),(11,12,1),(13,13,0),(1013,1013,1),(1014,1014,0)])) (AH 7) (PI p s []) [(6,A 0),(43,AC (a !=0))] λG=>IP G (λD E=>?_) λD E=>?_
     · refine Aq (BL (B (AQ G AB [] λG=>AT ?_)));exact DE 0 G (AH 7) (zm AY AY AY)
     refine B (AQ G AB [(6,A 2)] λG=>AT (Cg (Ar ?_)));exact DE 2 G (AH 7) (mh AY (.inr AY))
    have q:((Af (BI p s.v))=U)\/(¬(BI p s.v<=1)):=(λb=>Or.imp (λb=>(b)) (λb=>of_decide_eq_false b) (HW.1 b)) (Eq.mp (Cn _) f);refine AM G (BH (AX 7 [0,1,2,4] (Ts p s.v (Fy h O)) (AX 8 [] (lu (BI p s.v)) BG)) (AS c (AS f Ag)) (Ad [(4,10,0),(11,12,1),(13,13,0),(1013,1013,1),(1014,1014,0)])) (AH 7) (PI p s []) [(6,A 0),(43,AC V)] λG=>Ba G V Au (B (AQ G AB [(6,A 2)] λG=>AT (Cg (Ar ?_))));exact DE 2 G (AH 7) (mh AY (.inl AY))
   have x:=eq_of_beq d;refine TF G (BH (AX 7 (AH 7) (lU p s a Ab O) (AX 14 [] (sT (Jl p s a) (p.r.getD s.g.toNat 0)) BG)) (AS d Ag) (Ad [(4,15,0),(1016,1016,0)])) [0,1,3,7,15,15,15,127,15,271,15,1039,3855,7951,16383,32767,65535,131071] [(2,A a),(3,.P 7 0),(4,.P 8 0),(6,A 0),(25,.v (.bool !Ix (Jl p s a) (p.r.getD s.g.toNat 0)==0))] [(0:Int)<=s.g,s.g<(J p.r:Int),s.g.toNat<J p.r] ⟨((Qp h O).1),((Qp h O).2.1),((Qp h O).2.2),Ay⟩ λG=>?_;cases i:(!Ix (Jl p s a) (p.r.getD s.g.toNat (0:Int))==0)
   ·
    have C:Ix (Jl p s a) (p.r.getD s.g.toNat 0)=0:=(λb=>eq_of_beq b) (Eq.mp (Cp _) i);refine Bo G _ i (B ?_);cases l:(s.t==5)
    · have n:=ne_of_beq_false l;refine AM G (CR (AS l Ag) (Ad [(4,10,0),(13,13,0),(1014,1014,0)])) (AH 7) (PI p s []) [(6,A 0),(43,AC U)] λG=>Bo G U Au (Aq (BL (B (AQ G AB [] λG=>AT ?_))));exact DE 0 G (AH 7) (R1 AY AY)
    have n:=eq_of_beq l;exact False.elim O
   have C:¬(Ix (Jl p s a) (p.r.getD s.g.toNat 0)=0):=(λb=>ne_of_beq_false b) (Eq.mp (Cn _) i);refine Ba G _ i (B (AM G AB (AH 7) (PI p s []) [(6,A 1)] λG=>AT (Cg (Ar ?_))));exact DE 1 G (AH 7) (zt AY AY)
  have o:=eq_of_beq j;refine TF G (BH (AX 7 (AH 7) (lU p s a Ab O) (AX 14 [] (sT (Jl p s a) (p.s.getD s.g.toNat 0)) BG)) (AS j Ag) (Ad [(4,15,0),(1016,1016,0)])) [0,1,3,7,15,15,15,127,15,271,15,1039,3855,7951,16383,32767,65535,131071] [(2,A a),(3,.P 7 0),(4,.P 8 0),(6,A 0),(7,.v (.bool !Ix (Jl p s a) (p.s.getD s.g.toNat 0)==0))] [(0:Int)<=s.g,s.g<(J p.s:Int),s.g.toNat<J p.s] ⟨((PH h O).1),((PH h O).2.1),((PH h O).2.2),Ay⟩ λG=>?_;cases e:(!Ix (Jl p s a) (p.s.getD s.g.toNat (0:Int))==0)
  ·
   have y:Ix (Jl p s a) (p.s.getD s.g.toNat 0)=0:=(λb=>eq_of_beq b) (Eq.mp (Cp _) e);refine Bo G _ e (B ?_);cases k:(s.t==2)
   ·
    have u:=ne_of_beq_false k;refine rh G (CR (AS k Ag) (Ad [(4,15,0),(1016,1016,0)])) [0,1,3,7,15,15,15,127,15,271,15,1039,3855,7951,16383,32767,65535,131071] [(2,A a),(3,.P 7 0),(4,.P 8 0),(6,A 0),(25,AC U)] λG=>Bo G U Au (B ?_);cases m:(s.t==5)
    · have w:=ne_of_beq_false m;refine AM G (CR (AS m Ag) (Ad [(4,10,0),(13,13,0),(1014,1014,0)])) (AH 7) (PI p s []) [(6,A 0),(43,AC U)] λG=>Bo G U Au (Aq (BL (B (AQ G AB [] λG=>AT ?_))));exact DE 0 G (AH 7) (yD AY AY)
    have w:=eq_of_beq m;exact False.elim O
   have u:=eq_of_beq k;exact False.elim O
  have y:¬(Ix (Jl p s a) (p.s.getD s.g.toNat 0)=0):=(λb=>ne_of_beq_false b) (Eq.mp (Cn _) e);refine Ba G _ e (B (AM G AB (AH 7) (PI p s []) [(6,A 1)] λG=>AT (Cg (Ar ?_))));exact DE 1 G (AH 7) (ad0 AY AY)
def Cc(p:BE):Nat->Int->List AG->List (AG×Int)
 |0,_,_=>[]
 |d+1,a,c=>c.flatMap λs=>(s,a)::(Cc p d (EM p s a) s.b++Cc p d (EM p s a) s.e)
theorem iQ(p)(d)(a)(s)(r):Cc p (d+1) a (s::r)=(s,a)::(Cc p d (EM p s a) s.b++Cc p d (EM p s a) s.e)++Cc p (d+1) a r:=by
 simp only[Cc,List.flatMap_cons]
theorem vQ(p)(d)(a):Cc p d a []=[]:=by cases d<;>rfl
theorem F5(p)(d)(c)(a b):Cc p d c (a++b)=Cc p d c a++Cc p d c b:=by
 cases d with
 |zero=>rfl
 |succ d=>simp[Cc]
theorem wL(p)(d)(c){a}{k}(f:k<J a):
  Cc p (d+1) c (a.take (k+1))=Cc p (d+1) c (a.take k)++((a.getD k K,c)::(Cc p d (EM p (a.getD k K) c) (a.getD k K).b++Cc p d (EM p (a.getD k K) c) (a.getD k K).e)):=by
 rw[Gr _ _ f,F5,DU f,iQ,vQ,II]
theorem WG(p):∀d a c,(Cc p d a c).length<=CP c
 |0,_,_=>Di _
 |d+1,a,[]=>by simp[Cc]
 |d+1,a,s::r=>by
  rw[iQ,Az,BK,Az,CP,PW];have f:=WG p d (EM p s a) s.b;have h:=WG p d (EM p s a) s.e;have g:=WG p (d+1) a r;omega
def Ie(R:AG×Int->Int):Nat->List (AG×Int)->Int×Nat
 |c,[]=>(0,c)
 |c,x::r=>if R x=0 then Ie R (c+1) r else(R x,c)
theorem gi(R):∀a b c,Ie R c (a++b)=if(Ie R c a).1=0 then Ie R (Ie R c a).2 b else Ie R c a
 |[],b,c=>by simp[Ie]
 |x::r,b,c=>by
  simp only[IR,Ie];by_cases h:R x=0
  ·simp only[h,if_true];exact gi R r b _
  simp[h]
theorem ts{R a}:∀{l:List (AG×Int)} {c:Nat},(∀x∈l,R x=a x)->Ie R c l=Ie a c l
 |[],c,_=>rfl
 |x::r,c,h=>by
  simp only[Ie];rw[h x EI,ts λy b=>h y (Ep _ b)]
theorem ya(p)(a)(d)(h:∀f c i,BO p a d f c i=Ie (λx=>Ff p x.1 x.2 a) c (Cc p d f i))(f)(c)(s):
  Io p a (d+1) f c s=Ie (λx=>Ff p x.1 x.2 a) c ((s,f)::(Cc p d (EM p s f) s.b++Cc p d (EM p s f) s.e)):=by
 have g:=h (EM p s f) (c+1) s.b;unfold BO at g;rw[Io,Ie];simp only;split
 ·rw[gi,g]
  split
  ·exact h _ _ _
  rfl
 rfl
theorem sJ(p)(a):∀d f c b,BO p a d f c b=Ie (λx=>Ff p x.1 x.2 a) c (Cc p d f b)
 |0,f,c,b=>by
  induction b with
  |nil=>rfl
  |cons s r e=>unfold BO at e ⊢;rw[Fh];simp only[Io,if_true];exact e
 | d + 1, f, c, b => by
  induction b generalizing c with
  |nil=>simp[Fh,Cc,Ie]
  |cons s r e=>
   unfold BO at e ⊢;rw[Fh,iQ,gi, <-ya p a d (sJ p a d)];split
   ·exact e _
   rfl
def CG(R:AG×Int->Int)(a:Int×Int×Nat)(x:AG×Int):Int×Int×Nat:=
 if a.1=0 then(R x,if R x=0 then a.2.1 else(a.2.2:Int),a.2.2+1)else(a.1,a.2.1,a.2.2+1)
theorem jd(R):∀l a,(l.foldl (CG R) a).2.2=a.2.2+J l
 |[],a=>rfl
 |x::r,a=>by
  rw[List.foldl_cons,jd R r,BK];unfold CG;split<;>simp only<;>omega
theorem pC{R}:∀(l:List (AG×Int)) {σ:Int×Int×Nat},¬σ.1=0->(l.foldl (CG R) σ).1=σ.1/\(l.foldl (CG R) σ).2.1=σ.2.1
 |[],σ,h=>⟨rfl,rfl⟩
 |x::r,σ,h=>by
  rw[List.foldl_cons];have e:CG R σ x=(σ.1,σ.2.1,σ.2.2+1):=by unfold CG;rw[AO h]
  rw[e];exact pC r (σ:=(σ.1,σ.2.1,σ.2.2+1)) h
theorem oI{R}:∀l n,((l.foldl (CG R) (0,-1,n)).1,(l.foldl (CG R) (0,-1,n)).2.1)=if(Ie R n l).1=0 then(0,(-1))else((Ie R n l).1,((Ie R n l).2:Int))
 |[],n=>rfl
 | x :: r, n => by
  rw[List.foldl_cons,Ie];by_cases h:R x=0
  ·have e:CG R (0,-1,n) x=(0,-1,n+1):=by unfold CG;simp[h]
   rw[e,AZ h];exact oI r (n+1)
  have e:CG R (0,-1,n) x=(R x,(n:Int),n+1):=by unfold CG;simp[h]
  rw[e,AO h,AO h];obtain⟨a,b⟩:=pC (R:=R) r (σ:=(R x,(n:Int),n+1)) h;rw[a,b]
theorem mW{R}{p}{d}{c}{a}{k}(g:k<J a)(f):
  (Cc p (d+1) c (a.take (k+1))).foldl (CG R) f=
   (Cc p d (EM p (a.getD k K) c) (a.getD k K).e).foldl (CG R) ((Cc p d (EM p (a.getD k K) c) (a.getD k K).b).foldl (CG R) (CG R ((Cc p (d+1) c (a.take k)).foldl (CG R) f) (a.getD k K,c))):=by
 rw[wL p d c g,List.foldl_append,List.foldl_cons,List.foldl_append]
theorem Z8:∀x:Fin 4,∀y:Fin 4,∃z:Fin 4,AR x.val y.val=z.val:=by decide+kernel
theorem Kj{x y}(d:Af x=V)(e:Af y=V):Af (AR x y)=true:=by
 obtain⟨a,rfl⟩:=Jm d;obtain⟨b,rfl⟩:=Jm e;obtain⟨c,h⟩:=Z8 a b;rw[h];simp[Af];omega
theorem O0:∀x:Fin 4,∀y:Fin 4,AR x.val y.val=AR y.val x.val:=by decide+kernel
theorem G1:∀x:Fin 4,∀y:Fin 4,∀z:Fin 4,AR (AR x.val y.val) z.val=AR x.val (AR y.val z.val):=by decide+kernel
theorem A2{x y}(c:Af x=V)(d:Af y=V):AR x y=AR y x:=by
 obtain⟨a,rfl⟩:=Jm c;obtain⟨b,rfl⟩:=Jm d;exact O0 a b
theorem qi{x y z}(e:Af x=V)(f:Af y=V)(d:Af z=V):AR (AR x y) z=AR x (AR y z):=by
 obtain⟨a,rfl⟩:=Jm e;obtain⟨b,rfl⟩:=Jm f;obtain⟨c,rfl⟩:=Jm d;exact G1 a b c
theorem Nj{l:List Int}(h:l.all Af=V)(i):Af (l.getD i 0)=true:=by
 rcases Du i (J l)with a|a
 ·rw[DU a];exact Bt.1 h _ (EL a)
 rw[Bu,FO a];rfl
theorem SJ{h b}(i:h.all Af=V)(j:b.all Af=V):∀d e,Af (AL h b d e)=V
 |0,_=>rfl
 | d + 1, e => by
  rw[AL]
  have g:∀(f:List AF) (a:Int),Af a=V->Af (f.foldl (λa k=>AR a (AL h b d k)) a)=true:=by
   intro f;induction f with
   |nil=>intro a c;exact c
   |cons x r l=>intro a c;rw[List.foldl_cons];exact l _ (Kj c (SJ i j d x))
  refine g _ _ ?_;unfold Fm;split
  ·exact Nj i _
  split
  ·exact Nj j _
  rfl
def PQ(p:BE):Bool:=p.s.all Af&&p.r.all Af
theorem tI{p}(h:BZ p=V):PQ p=true:=by
 unfold BZ Gf at h;simp only[Aj]at h;unfold PQ;rw[h.1.1.1.1.1.1,h.1.1.1.1.1.2];rfl
theorem ez{p}(h:PQ p=V)(e):Af (BI p e)=true:=by
 simp only[PQ,Aj]at h;exact SJ h.1 h.2 5 e
theorem pR{p}(h:PQ p=V){b}(a:Af b=V)(s):Af (EM p s b)=true:=by
 unfold EM;split
 ·exact Kj a (ez h _)
 exact a
theorem kN{p}(e:PQ p=V):∀d g f,Af g=V->f.all (Ax (J p.s) (J p.r) d)=V->∀x∈Cc p d g f,EE (J p.s) (J p.r) x.1=V/\Af x.2=V/\(x.1.t=4->x.1.v.t=0/\x.1.v.k=[])
 |0,g,f,_,_,x,a=>by simp[Cc]at a
 | d + 1, g, f, h, m, x, a => by
  rw[Cc]at a;obtain⟨s,j,a⟩:=List.mem_flatMap.1 a;have i:=Bt.1 m s j;have c:=i;rw[Lu,Aj,Aj]at c;rw[Eb,DQ]at a;rcases a with rfl|a|a
  ·refine⟨c.1,h,λl=>?_⟩
   rw[Ax,Aj]at i;have b:=i.1;unfold Dn at b;rw[AZ (.inr l),AZ l]at b;simp only[Aj,decide_eq_true_eq,Dy]at b;exact⟨b.2.2.1.1,FM b.2.2.2⟩
  ·exact kN e d _ _ (pR e h s) c.2.1 x a
  exact kN e d _ _ (pR e h s) c.2.2 x a
theorem o3{p}(f:PQ p=V){s}{a}(c:Af a=V):GM p s a=GX p s a:=by
 have l:=ez f s.v;have m:=ez f s.i;simp only[PQ,Aj]at f;unfold GM GX;by_cases k:s.t=1
 ·rw[AZ k,AZ k]
  have b:=Kj l c;have d:=Nj f.1 s.g.toNat;have:=qX b d;unfold Gw;rw[b,d];by_cases h:Ix (AR (BI p s.v) a) (p.s.getD s.g.toNat 0)=0
  ·rw[AZ h,AZ]
   rw[beq_iff_eq.2 h]at this;rw[<-this];rfl
  rw[AO h,AO];rw[beq_eq_false_iff_ne.2 h]at this;rw[<-this];simp
 rw[AO k,AO k];by_cases n:s.t=2
 ·rw[AZ n,AZ n]
  have e:AR (AR (BI p s.v) a) (BI p s.i)=AR (AR (BI p s.v) (BI p s.i)) a:=by
   rw[qi l c m,A2 c m, <-qi l m c]
  rw[e];have b:=Kj (Kj l m) c;have d:=Nj f.2 s.g.toNat;have:=qX b d;unfold Gw;rw[b,d];by_cases h:Ix (AR (AR (BI p s.v) (BI p s.i)) a) (p.r.getD s.g.toNat 0)=0
  ·rw[AZ h,AZ]
   rw[beq_iff_eq.2 h]at this;rw[<-this];rfl
  rw[AO h,AO];rw[beq_eq_false_iff_ne.2 h]at this;rw[<-this];simp
 rw[AO n,AO n];by_cases j:s.t=5
 ·rw[AZ j,AZ j]
  by_cases h:(Af (BI p s.v)&&Y (BI p s.v<=1))=V/\a=0
  ·rw[AZ h,AZ]
   rw[h.1,decide_eq_true h.2];rfl
  rw[AO h,AO];rw[Aj,decide_eq_true_eq];exact h
 rw[AO j,AO j]
theorem qE{p}(h:BZ p=V):((Cc p 5 0 p.b).foldl (CG λx=>GM p x.1 x.2) (0,-1,0)).1=(DD p U).1/\((Cc p 5 0 p.b).foldl (CG λx=>GM p x.1 x.2) (0,-1,0)).2.1=(DD p U).2:=by
 have a:=oI (R:=λx=>GM p x.1 x.2) (Cc p 5 0 p.b) 0
 have d:=tI h
 have e:Ie (λx=>GM p x.1 x.2) 0 (Cc p 5 0 p.b)=BO p U 5 0 0 p.b:=by
  rw[sJ];refine ts λx g=>?_
  have f:=kN d 5 0 p.b rfl (QR h).1 x g;rw[o3 d f.2.1];unfold Ff;simp only[Bool.false_eq_true,if_false];split
  ·rename_i h;exact h
  rfl
 rw[e]at a;have i:=Prod.mk.inj a;unfold DD;rw[AZ h];split
 ·rename_i c
  rw[AZ c]at a;exact Prod.mk.inj a
 rename_i c
 rw[AO c]at a;exact Prod.mk.inj a
abbrev Gt:Type:=List Int×List Int
def Ck(x:Int):BitVec 64:=BitVec.ofInt 64 x
def WQ(b:BitVec 64):Int:=IntKind.i64.wrap (b.toNat:Int)
theorem zP(b:BitVec 64):Ck (WQ b)=b:=by
 apply BitVec.eq_of_toNat_eq;unfold Ck WQ;rw[BitVec.toNat_ofInt];have h:=b.isLt;unfold IntKind.wrap;simp only[IntKind.bits,IntKind.signed,IG];split<;>omega
theorem fB(x y):AR x y=WQ (Ck x|||Ck y):=rfl
theorem TP(x y):Ck (AR x y)=Ck x|||Ck y:=by rw[fB,zP]
def Bb(x y:Int):Prop:=Ck x|||Ck y=Ck y
theorem Bb.refl(x):Bb x x:=BitVec.or_self
theorem Bb.trans{x y z}(h:Bb x y)(k:Bb y z):Bb x z:=by
 unfold Bb at*;rw[<-k, <-BitVec.or_assoc,h]
theorem KE(x y):Bb x (AR x y):=by unfold Bb;rw[TP, <-BitVec.or_assoc,BitVec.or_self]
theorem QO{x y a b}(h:Bb x a)(k:Bb y b):Bb (AR x y) (AR a b):=by
 unfold Bb at*;rw[TP,TP,BitVec.or_assoc, <-BitVec.or_assoc (Ck y),BitVec.or_comm (Ck y) (Ck a),BitVec.or_assoc (Ck a),k, <-BitVec.or_assoc,h]
theorem N5:∀x,∀y:Fin 4,Ck x.val=Ck y.val->x=y:=by decide+kernel
theorem xZ:∀x:Fin 4,∀y:Fin 4,Ck x.val|||Ck y.val=Ck y.val->x.val<=y.val:=by decide+kernel
theorem Bb.anti{x y}(h:Bb x y)(k:Bb y x)(c:Af x=V)(d:Af y=V):x=y:=by
 obtain⟨a,rfl⟩:=Jm c;obtain⟨b,rfl⟩:=Jm d;unfold Bb at*;rw[BitVec.or_comm,h]at k;rw[N5 b a k]
theorem Bb.nat{x y}(h:Bb x y)(c:Af x=V)(d:Af y=V):x.toNat<=y.toNat:=by
 obtain⟨a,rfl⟩:=Jm c;obtain⟨b,rfl⟩:=Jm d;have:=xZ a b h;omega
def FQ(q r:Gt):Prop:=(∀i,Bb (q.1.getD i 0) (r.1.getD i 0))/\∀i,Bb (q.2.getD i 0) (r.2.getD i 0)
def Fd(q r:Gt):Prop:=J r.1=J q.1/\(J r.2)=J q.2
def Ic(q:Gt):Prop:=q.1.all Af=V/\q.2.all Af=V
theorem FQ.refl(q):FQ q q:=⟨λ_=>Bb.refl _,λ_=>Bb.refl _⟩
theorem FQ.trans{q r s}(h:FQ q r)(k:FQ r s):FQ q s:=⟨λi=>(h.1 i).trans (k.1 i),λi=>(h.2 i).trans (k.2 i)⟩
theorem Fd.refl(q):Fd q q:=⟨rfl,rfl⟩
theorem Fd.trans{q r s}(h:Fd q r)(k:Fd r s):Fd q s:=⟨k.1.trans h.1,k.2.trans h.2⟩
theorem Fd.symm{q r}(h:Fd q r):Fd r q:=⟨h.1.symm,h.2.symm⟩
theorem nu{a b}(g:J b=J a)(h:∀i,Bb (a.getD i 0) (b.getD i 0))(k:∀i,Bb (b.getD i 0) (a.getD i 0))(e:a.all Af=V)(d:b.all Af=V):a=b:=by
 apply List.ext_getElem O;intro i c f;have:=(h i).anti (k i) (Nj e i) (Nj d i);rw[DU c,DU f]at this;exact this
theorem FQ.anti{q r}(h:FQ q r)(k:FQ r q)(c:Fd q r)(a:Ic q)(b:Ic r):q=r:=
 Prod.ext (nu c.1 h.1 k.1 a.1 b.1) (nu c.2 h.2 k.2 a.2 b.2)
theorem c6{q r}(h:FQ q r)(e):Bb (Fm q.1 q.2 e) (Fm r.1 r.2 e):=by
 unfold Fm;split
 ·exact h.1 _
 split
 ·exact h.2 _
 exact Bb.refl _
theorem Ws{q r}(h:FQ q r):∀d e,Bb (AL q.1 q.2 d e) (AL r.1 r.2 d e)
 |0,_=>Bb.refl _
 | d + 1, e => by
  rw[AL,AL]
  have g:∀(f:List AF) (a b:Int),Bb a b->Bb (f.foldl (λa k=>AR a (AL q.1 q.2 d k)) a) (f.foldl (λa k=>AR a (AL r.1 r.2 d k)) b):=by
   intro f;induction f with
   |nil=>intro a b c;exact c
   |cons x t i=>intro a b c;rw[List.foldl_cons,List.foldl_cons];exact i _ _ (QO c (Ws h d x))
  exact g _ _ _ (c6 h e)
def El(q:Gt)(s:AG)(a:Int):Gt:=
 if s.t=1 then(q.1.set s.g.toNat (AR (AR (q.1.getD s.g.toNat 0) (AL q.1 q.2 5 s.v)) a),q.2)
 else if s.t=2 then(q.1,q.2.set s.g.toNat (AR (AR (AR (q.2.getD s.g.toNat 0) (AL q.1 q.2 5 s.v)) (AL q.1 q.2 5 s.i)) a))
 else q
def Ik(q:Gt)(s:AG)(a:Int):Int:=if s.t=3 then AR a (AL q.1 q.2 5 s.v)else a
def KI(b:Bool):Nat->Gt->Int->AG->Gt
 |0,q,_,_=>q
 |d+1,q,a,s=>s.e.foldl (λr t=>KI b d r (Ik (if b then s.b.foldl (λr t=>KI b d r (Ik (El q s a) s a) t) (El q s a)else El q s a) s a) t) (s.b.foldl (λr t=>KI b d r (Ik (El q s a) s a) t) (El q s a))
abbrev Bh(b:Bool)(d:Nat)(q:Gt)(c:Int)(a:List AG):Gt:=a.foldl (λr t=>KI b d r c t) q
theorem QQ(b)(d)(q)(a)(s):KI b (d+1) q a s=Bh b d (Bh b d (El q s a) (Ik (El q s a) s a) s.b) (Ik (if b then Bh b d (El q s a) (Ik (El q s a) s a) s.b else El q s a) s a) s.e:=by rw[KI]
theorem ek(l)(t i)(x:Int):(l.set t x).getD i 0=if t=i/\t<(J l)then x else l.getD i 0:=by
 simp only[Bu,IT];by_cases h:t=i
 ·subst h
  by_cases a:t<J l
  ·simp[a]
  simp[a]
 simp[h]
theorem pQ{l:List Int}{t}{x}(h:l.all Af=V)(b:Af x=V):(l.set t x).all Af=true:=by
 rw[Bt]at*;intro y c;rcases List.mem_or_eq_of_mem_set c with a|a
 ·exact h y a
 rw[a];exact b
theorem iK(q)(s)(a):Fd q (El q s a):=by
 unfold El;split
 ·exact⟨At,rfl⟩
 split
 ·exact⟨rfl,At⟩
 exact Fd.refl _
theorem sy{l:List Int}{t}{x}(h:Bb (l.getD t 0) x)(i):Bb (l.getD i 0) ((l.set t x).getD i 0):=by
 rw[ek];split
 ·rename_i a;rw[<-a.1];exact h
 exact Bb.refl _
theorem tx{l m}{t}{x y}(a:J m=J l)(h:∀i,Bb (l.getD i 0) (m.getD i 0))(b:Bb x y)(i):Bb ((l.set t x).getD i 0) ((m.set t y).getD i 0):=by
 rw[ek,ek,a];split
 ·exact b
 exact h i
theorem zy(q)(s)(a):FQ q (El q s a):=by
 unfold El;split
 ·exact⟨sy ((KE _ _).trans (KE _ _)),λ_=>Bb.refl _⟩
 split
 ·exact⟨λ_=>Bb.refl _,sy (((KE _ _).trans (KE _ _)).trans (KE _ _))⟩
 exact FQ.refl _
theorem vK{q r}(h:FQ q r)(c:Fd q r){d a}(b:Bb d a)(s):FQ (El q s d) (El r s a):=by
 unfold El;split
 ·exact⟨tx c.1 h.1 (QO (QO (h.1 _) (Ws h 5 _)) b),h.2⟩
 split
 ·exact⟨h.1,tx c.2 h.2 (QO (QO (QO (h.2 _) (Ws h 5 _)) (Ws h 5 _)) b)⟩
 exact h
theorem C9{q}(h:Ic q){b}(a:Af b=V)(s):Ic (El q s b):=by
 unfold El;split
 ·exact⟨pQ h.1 (Kj (Kj (Nj h.1 _) (SJ h.1 h.2 5 _)) a),h.2⟩
 split
 ·exact⟨h.1,pQ h.2 (Kj (Kj (Kj (Nj h.2 _) (SJ h.1 h.2 5 _)) (SJ h.1 h.2 5 _)) a)⟩
 exact h
theorem sG{q r}(h:FQ q r){c b}(a:Bb c b)(s):Bb (Ik q s c) (Ik r s b):=by
 unfold Ik;split
 ·exact QO a (Ws h 5 _)
 exact a
theorem pK{q}(h:Ic q){b}(a:Af b=V)(s):Af (Ik q s b)=true:=by
 unfold Ik;split
 ·exact Kj a (SJ h.1 h.2 5 _)
 exact a
theorem Uj{F}(a:∀q s,Fd q (F q s)):∀(b:List AG) (q:Gt),Fd q (b.foldl F q)
 |[],q=>Fd.refl q
 |s::r,q=>(a q s).trans (Uj a r _)
theorem WM{F}(a:∀q s,FQ q (F q s)):∀(b:List AG) (q:Gt),FQ q (b.foldl F q)
 |[],q=>FQ.refl q
 |s::r,q=>(a q s).trans (WM a r _)
theorem bo{F}(a:∀q s,Ic q->Ic (F q s)):∀(b:List AG) (q:Gt),Ic q->Ic (b.foldl F q)
 |[],_,h=>h
 |s::r,q,h=>bo a r _ (a q s h)
theorem YJ{F G}(e:∀q s,Fd q (F q s))(b:∀q s,Fd q (G q s))(h:∀q r s,Fd q r->FQ q r->FQ (F q s) (G r s)):∀(c:List AG) (q r:Gt),Fd q r->FQ q r->FQ (c.foldl F q) (c.foldl G r)
 |[],_,_,_,a=>a
 |s::t,q,r,d,a=>YJ e b h t _ _ (((e q s).symm.trans d).trans (b r s)) (h q r s d a)
theorem NX(b):∀d a q s,Fd q (KI b d q a s)
 |0,_,q,_=>Fd.refl q
 |d+1,a,q,s=>by
  rw[QQ];exact((iK q s a).trans (Uj (λq s=>NX b d _ q s) _ _)).trans (Uj (λq s=>NX b d _ q s) _ _)
theorem Xe(b):∀d a q s,FQ q (KI b d q a s)
 |0,_,q,_=>FQ.refl q
 |d+1,a,q,s=>by
  rw[QQ];exact((zy q s a).trans (WM (λq s=>Xe b d _ q s) _ _)).trans (WM (λq s=>Xe b d _ q s) _ _)
theorem jI(b):∀d a q s,Af a=V->Ic q->Ic (KI b d q a s)
 |0,_,_,_,_,h=>h
 |d+1,a,q,s,f,h=>by
  rw[QQ];have c:=C9 h f s;have g:Ic (Bh b d (El q s a) (Ik (El q s a) s a) s.b):=bo (λq t e=>jI b d _ q t (pK c f s) e) _ _ c
  refine bo (λq t e=>jI b d _ q t (pK ?_ f s) e) _ _ g
  split
  ·exact g
  exact c
theorem dq{b b'}(j:b=V->b'=V):∀d a c q r s,Bb a c->Fd q r->FQ q r->FQ (KI b d q a s) (KI b' d r c s)
 |0,_,_,_,_,_,_,_,h=>h
 | d + 1, a, c, q, r, s, k, g, h => by
  rw[QQ,QQ];have i:=vK h g k s;have m:Fd (El q s a) (El r s c):=((iK q s a).symm.trans g).trans (iK r s c);have p:=sG i k s;have n:FQ (Bh b d (El q s a) (Ik (El q s a) s a) s.b) (Bh b' d (El r s c) (Ik (El r s c) s c) s.b):=YJ (λq t=>NX b d _ q t) (λq t=>NX b' d _ q t) (λq r t g l=>dq j d _ _ q r t p g l) _ _ _ m i
  have o:Fd (Bh b d (El q s a) (Ik (El q s a) s a) s.b) (Bh b' d (El r s c) (Ik (El r s c) s c) s.b):=((Uj (λq t=>NX b d _ q t) _ _).symm.trans m).trans (Uj (λq t=>NX b' d _ q t) _ _)
  refine YJ (λq t=>NX b d _ q t) (λq t=>NX b' d _ q t) (λq r t g l=>dq j d _ _ q r t ?_ g l) _ _ _ o n
  refine sG ?_ k s;cases b with
  |true=>
   have e:=j rfl;subst e;exact n
  |false=>
   simp only[Bool.false_eq_true,if_false];split
   ·exact i.trans (WM (λq t=>Xe b' d _ q t) _ _)
   exact i
section
variable{b:Bool}{d:Nat}{cx:Int}{q r:Gt}{ss:List AG}
theorem SS:Fd q (Bh b d q cx ss):=Uj (λq t=>NX b d _ q t) _ _
theorem io:FQ q (Bh b d q cx ss):=WM (λq t=>Xe b d _ q t) _ _
theorem nE(c:Af cx=V)(h:Ic q):Ic (Bh b d q cx ss):=bo (λq t a=>jI b d _ q t c a) _ _ h
end
def Pa(l:List Int):Nat:=(l.map Int.toNat).sum
def Nw(q:Gt):Nat:=Pa q.1+Pa q.2
theorem dY:∀{a b:List Int},J b=J a->a.all Af=V->b.all Af=V->(∀i,Bb (a.getD i 0) (b.getD i 0))->Pa a<=Pa b/\(Pa a=Pa b->a=b)
 |[],b,c,_,_,_=>by rw[FM c];exact⟨BR _,λ_=>rfl⟩
 |x::r,[],c,_,_,_=>by cases c
 |x::r,y::t,c,f,d,h=>by
  simp only[IS,Aj]at f d;have j:=h 0;simp at j;obtain⟨k,g⟩:=dY (a:=r) (b:=t) (by simpa using c) f.2 d.2 λi=>by have:=h (i+1);simpa using this
  have l:=j.nat f.1 d.1;simp only[Pa,Fa,List.sum_cons]at k g ⊢;refine⟨O,λe=>?_⟩
  obtain⟨a,rfl⟩:=Jm f.1;obtain⟨b,rfl⟩:=Jm d.1;rw[g O];congr 1;omega
theorem eo:∀{l:List Int},l.all Af=V->Pa l<=3*J l
 |[],_=>Di _
 |x::r,h=>by
  simp only[IS,Aj]at h;have b:=eo h.2;obtain⟨a,rfl⟩:=Jm h.1;simp only[Pa,Fa,List.sum_cons,BK]at b ⊢;omega
theorem pt{q r}(c:Fd q r)(b:Ic q)(d:Ic r)(h:FQ q r)(a:¬r=q):Nw q<Nw r:=by
 obtain⟨i,e⟩:=dY c.1 b.1 d.1 h.1;obtain⟨j,f⟩:=dY c.2 b.2 d.2 h.2;unfold Nw;refine Nat.lt_of_not_le λg=>a (Prod.ext (e O).symm (f O).symm)
theorem tG{q}(a:Ic q):Nw q<=3*(J q.1+J q.2):=by
 have b:=eo a.1;have c:=eo a.2;unfold Nw;omega
def Jf(b:List AG)(p q:Gt):Prop:=Fd p q/\Ic q/\FQ p q/\∀r,Fd p r->Ic r->FQ p r->Bh V 5 r 0 b=r->FQ q r
theorem de{b}{p}(h:Ic p):Jf b p p:=⟨Fd.refl _,h,FQ.refl _,λ_ _ _ h _=>h⟩
theorem bx{b}{p q}{f}(h:Jf b p q):Jf b p (Bh f 5 q 0 b):=
 ⟨h.1.trans SS,nE rfl h.2.1,h.2.2.1.trans io,λr a e d c=>by
  have g:=h.2.2.2 r a e d c;have:=YJ (λq t=>NX f 5 0 q t) (λq t=>NX V 5 0 q t) (λq r t i j=>dq (b:=f) (b':=V) (λ_=>rfl) 5 0 0 q r t (Bb.refl _) i j) b q r (h.1.symm.trans a) g
  rw[show b.foldl (λq t=>KI V 5 q 0 t) r=r from c]at this
  exact this⟩
theorem uy{b}{p q r}(a:Jf b p q)(c:Jf b p r)(e:Bh V 5 q 0 b=q)(d:Bh V 5 r 0 b=r):q=r:=
 (a.2.2.2 r c.1 c.2.1 c.2.2.1 d).anti (c.2.2.2 q a.1 a.2.1 a.2.2.1 e) (a.1.symm.trans c.1) a.2.1 c.2.1
def Nt(b:List AG):Nat->Gt->Gt
 |0,q=>q
 |n+1,q=>Nt b n (Bh V 5 q 0 b)
def MJ(p:BE):Gt:=Nt p.b 64 (p.s,p.r)
theorem oa{b}{p}:∀n q,Jf b p q->Jf b p (Nt b n q)
 |0,_,h=>h
 |n+1,q,h=>oa n _ (bx h)
theorem pm{b}:∀(n:Nat) {q:Gt},Bh V 5 q 0 b=q->Nt b n q=q
 |0,_,_=>rfl
 |n+1,q,h=>by rw[Nt,h];exact pm n h
theorem oh{b}{p}:∀n q,Jf b p q->Bh V 5 (Nt b n q) 0 b=Nt b n q\/Nw q+n<=Nw (Nt b n q)
 |0,_,_=>.inr (BR _)
 | n + 1, q, h => by
  rw[Nt];by_cases e:Bh V 5 q 0 b=q
  ·left
   rw[e,pm n e,e]
  have c:=pt SS h.2.1 (nE rfl h.2.1) io e;rcases oh n _ (bx (f:=V) h)with a|a
  ·exact .inl a
  right;omega
theorem dp{p}(h:BZ p=V):Ic (p.s,p.r):=by
 have:=tI h;simp only[PQ,Aj]at this;exact this
theorem iI{p}(h:BZ p=V):Jf p.b (p.s,p.r) (MJ p):=oa 64 _ (de (dp h))
theorem e5{p}(h:BZ p=V)(g:J p.s+J p.r<=14):Bh V 5 (MJ p) 0 p.b=MJ p:=by
 rcases oh (b:=p.b) 64 (p.s,p.r) (de (dp h))with a|a
 ·exact a
 have e:=iI h;have c:=tG e.2.1;have d:=e.1;have f:Nt p.b 64 (p.s,p.r)=MJ p:=rfl;rw[f]at a;rw[d.1,d.2]at c;simp only at c;omega
theorem lp{p}{q}(h:BZ p=V)(d:J p.s+J p.r<=14)(c:Jf p.b (p.s,p.r) q)(a:Bh V 5 q 0 p.b=q):MJ p=q:=
 uy (iI h) c (e5 h d) a
def Mh(F:AG->Int):List AG->Int
 |[]=>0
 |s::r=>if F s=0 then Mh F r else F s
def Gx(f c:List Int)(a:Bool):Nat->Int->AG->Int
 |0,_,_=>0
 | d + 1, g, s => if Ff ⟨f, c, []⟩ s g a = 0 then
   (if Mh (Gx f c a d (EM ⟨f,c,[]⟩ s g)) s.b=0 then Mh (Gx f c a d (EM ⟨f,c,[]⟩ s g)) s.e else Mh (Gx f c a d (EM ⟨f,c,[]⟩ s g)) s.b)
  else Ff ⟨f,c,[]⟩ s g a
theorem gP{F}{G}(h:∀c s,(G c s).1=F s):∀a c,(Fh G c a).1=Mh F a
 |[],_=>rfl
 |s::r,c=>by
  rw[Fh,Mh,h];split
  ·exact gP h r _
  exact h c s
theorem sV(p)(a):∀d b c s,(Io p a d b c s).1=Gx p.s p.r a d b s
 |0,_,_,_=>rfl
 | d + 1, b, c, s => by
  have h:Ff p s b a=Ff ⟨p.s,p.r,[]⟩ s b a:=rfl;have g:EM p s b=EM ⟨p.s,p.r,[]⟩ s b:=rfl;have e:=λf c=>gP (sV p a d (EM p s b)) f c
  rw[Io,Gx, <-h, <-g];split
  ·rw[e]
   split
   ·rw[e]
   rw[e]
  rfl
theorem zj(p)(a)(d)(e)(c)(b):(BO p a d e c b).1=Mh (Gx p.s p.r a d e) b:=gP (sV p a d e) b c
theorem Vo{F}:∀{a:List AG},Mh F a=0↔∀s∈a,F s=0
 |[]=>by simp[Mh]
 | s :: r => by
  rw[Mh];by_cases h:F s=0
  ·rw[AZ h,Vo]
   simp[h]
  rw[AO h];simp[h]
theorem ZX{g c}{a}{d}{i}{s}:Gx g c a (d+1) i s=0↔Ff ⟨g,c,[]⟩ s i a=0/\(∀t∈s.b,Gx g c a d (EM ⟨g,c,[]⟩ s i) t=0)/\∀t∈s.e,Gx g c a d (EM ⟨g,c,[]⟩ s i) t=0:=by
 rw[Gx];by_cases h:Ff ⟨g,c,[]⟩ s i a=0
 ·rw[AZ h]
  by_cases j:Mh (Gx g c a d (EM ⟨g,c,[]⟩ s i)) s.b=0
  ·rw[AZ j,Vo]
   exact⟨λf=>⟨h,Vo.1 j,f⟩,λf=>f.2.2⟩
  rw[AO j];exact⟨λf=>absurd f j,λf=>absurd (Vo.2 f.2.1) j⟩
 rw[AO h];exact⟨λf=>absurd f h,λf=>f.1⟩
theorem F6(p)(a):(DD p a).1=if BZ p=V then Mh (Gx p.s p.r a 5 0) p.b else 5:=by
 unfold DD;rw[<-zj p a 5 0 0];split
 ·split
  ·rename_i h;exact h.symm
  rfl
 rfl
theorem WZ(p)(a):(DD p a).1=0↔BZ p=V/\∀s∈p.b,Gx p.s p.r a 5 0 s=0:=by
 rw[F6];split
 ·rename_i h;rw[Vo];exact⟨λc=>⟨h,c⟩,λc=>c.2⟩
 rename_i h;exact⟨λc=>absurd c ED,λc=>absurd c.1 h⟩
theorem lJ(p):(UP p).1=0↔BZ p=V/\(∀s∈p.b,Gx p.s p.r U 5 0 s=0)/\∀s∈p.b,Gx p.s p.r V 5 0 s=0:=by
 unfold UP;split
 ·rename_i h
  rw[WZ];exact⟨λa=>⟨a.1,((WZ p U).1 h).2,a.2⟩,λa=>⟨a.1,a.2.2⟩⟩
 rename_i h
 exact⟨λa=>absurd a h,λa=>absurd ((WZ p U).2 ⟨a.1,a.2.1⟩) h⟩
def DX:Nat->AG->Bool
 |0,_=>V
 |d+1,s=>Y (s.t≠5)&&(s.b.all (DX d)&&s.e.all (DX d))
def KR(p:BE):Bool:=BZ p&&p.b.all (DX 5)
theorem o4{x}(h:Af x=V):WQ (Ck x)=x:=by
 obtain⟨c,rfl⟩:=Jm h;have a:∀c:Fin 4,WQ (Ck (c.val:Int))=(c.val:Int):=by decide+kernel
 exact a c
theorem zJ{x y}(h:Bb x y)(a:Af y=V):AR x y=y:=by
 rw[fB,h];exact o4 a
theorem ve{x y}(h:AR x y=y):Bb x y:=by
 unfold Bb;rw[<-TP,h]
theorem Qa(x y):Bb y (AR x y):=by unfold Bb;rw[TP, <-BitVec.or_assoc,BitVec.or_comm (Ck y) (Ck x),BitVec.or_assoc,BitVec.or_self]
theorem Pk{x y z}(h:Bb x z)(k:Bb y z):Bb (AR x y) z:=by unfold Bb at*;rw[TP,BitVec.or_assoc,k,h]
theorem Ks(y):Bb 0 y:=by unfold Bb;show(BitVec.ofInt 64 0)|||Ck y=Ck y;simp
section
variable{vs ars:List Int}{l:Int}{s:AG}{pc pd:Int}
end
theorem tu{p}{s}{a}:Ff p s a U=0↔GX p s a=0:=by
 unfold Ff;split
 ·rename_i h;exact⟨λ_=>h,λ_=>rfl⟩
 exact Iff.rfl
theorem Rd{p}(h:BZ p=V):p.s.all Af=V/\p.r.all Af=V/\1<=J p.s/\p.b.all (Ax (J p.s) (J p.r) 5)=true:=by
 unfold BZ Gf at h;simp only[Aj,decide_eq_true_eq]at h;exact⟨h.1.1.1.1.1.1,h.1.1.1.1.1.2,h.1.1.1.1.2,h.1.2⟩
def Ni(c:BY):List AV->List Bool->List (List Bool)
 |[],_=>[]
 |x::t,r=>r::Ni c t (Dh c x r)
def DP(c:BY):List AV->List Bool->List Bool
 |[],r=>r
 |x::t,r=>DP c t (Dh c x r)
def PS(c:BY):List AV->List Bool->Prop
 |[],_=>True
 |x::t,r=>HY c x r=0/\PS c t (Dh c x r)
theorem Nk(c):∀a b r,DP c (a++b) r=DP c b (DP c a r)
 |[],_,_=>rfl
 |x::t,b,r=>by simp only[IR,DP];exact Nk c t b _
theorem VG(c):∀a b r,PS c (a++b) r↔PS c a r/\PS c b (DP c a r)
 |[],b,r=>by simp[PS,DP]
 |x::t,b,r=>by simp only[IR,PS,DP,VG c t b];exact and_assoc.symm
theorem UT(c):∀a r,(Ni c a r).length=J a
 |[],_=>rfl
 |x::t,r=>by simp only[Ni,BK,UT c t]
theorem VP(c):∀a r,(DP c a r).length=J r
 |[],_=>rfl
 |x::t,r=>by rw[DP,VP c t,RM]
theorem fP{a b}(d:Af a=V)(c:Af b=V):Dt (AR a b)=(Dt a||Dt b)/\Af (AR a b)=true:=by
 unfold Af at d c;simp only[Aj,decide_eq_true_eq]at d c;have e:a=0\/a=1\/a=2\/a=3:=O;have f:b=0\/b=1\/b=2\/b=3:=O;rcases e with rfl|rfl|rfl|rfl<;>rcases f with rfl|rfl|rfl|rfl<;>decide+kernel
theorem qD(l):(Af l&&Y (l%2=1))=Dt l:=by
 unfold Dt;cases h:Af l
 ·rfl
 unfold Af at h;simp only[Aj,decide_eq_true_eq]at h;have a:l=0\/l=1\/l=2\/l=3:=O;rcases a with rfl|rfl|rfl|rfl<;>rfl
theorem fa{f:AF->Int}:∀(b:List AF) (a:Int),Af a=V->(∀k∈b,Af (f k)=V)->Dt (b.foldl (λa k=>AR a (f k)) a)=(Dt a||b.any λk=>Dt (f k))/\Af (b.foldl (λa k=>AR a (f k)) a)=V
 |[],a,c,_=>by simp[c]
 |k::t,a,c,d=>by
  have e:=fP c (d k EI);have g:=fa (f:=f) t (AR a (f k)) e.2 λq h=>d q (Ep _ h)
  simp only[List.foldl_cons,List.any_cons];exact⟨by rw[g.1,e.1,Bool.or_assoc],g.2⟩
section
variable{vs ars:List Int}(hv:∀k:Nat,Af (vs.getD k 0)=V)(ha:∀k:Nat,Af (ars.getD k 0)=V)
include hv ha
theorem ll(e):Af (Fm vs ars e)=true:=by
 unfold Fm;split
 ·exact hv _
 split
 ·exact ha _
 decide
theorem Uo:∀n e,Af (AL vs ars n e)=V
 |0,_=>rfl
 |n+1,e=>by
  rw[AL];exact(fa (f:=AL vs ars n) e.k (Fm vs ars e) (ll hv ha e) λk _=>Uo n k).2
theorem uj(n)(e):Dt (AL vs ars (n+1) e)=(Dt (Fm vs ars e)||e.k.any λk=>Dt (AL vs ars n k)):=by
 rw[AL];exact(fa (f:=AL vs ars n) e.k (Fm vs ars e) (ll hv ha e) λk _=>Uo hv ha n k).1
end
structure OY(c:BY)(xs:List AV)(t:List Bool)(reg:Int):Prop where
 fine:PS c xs t
 keep:∀k:Nat,((k:Int)<reg\/9<=k)->(DP c xs t).getD k U=t.getD k U
 ops:∀x∈xs,x.op≠8/\x.op≠9/\x.op≠10/\x.op≠13
theorem gM(t)(k:Nat):DF t k=t.getD k false:=by unfold DF;rw[Gb]
theorem WP{c}{x}{t}{b}(j:0<=b)(i:b<=8)(f:x.a=b)(g:HY c x t=0)(d:x.op≠8/\x.op≠9/\x.op≠10/\x.op≠13):OY c [x] t b:=by
 refine⟨⟨g,Ay⟩,λk h=>?_,λy e=>by rw[Dw]at e;subst e;exact d⟩
 simp only[DP];unfold Dh;split
 ·rw[f,Rv,AO O]
 rfl
theorem Ww{c}{x}{t}{b}(f:J t=14)(e:0<=x.a)(d:x.a<14)(h:GT c x t=Z b):DF (DP c [x] t) x.a=b:=by
 simp only[DP];unfold Dh DF;rw[h];simp only;rw[Rv,AZ ⟨rfl,O⟩]
theorem OY.app{c}{a b}{t}{e d}(h:OY c a t e)(k:OY c b (DP c a t) d)(i:e<=d):OY c (a++b) t e:=by
 refine⟨(VG c a b t).2 ⟨h.fine,k.fine⟩,λj g=>?_,λx f=>?_⟩
 ·rw[Nk,k.keep j O,h.keep j g]
 rcases DQ.1 f with f|f
 ·exact h.ops x f
 exact k.ops x f
theorem rj{c}{n}(o:∀(e:AF) (a:Int) (t:List Bool),As (J c.s) (J c.r) n e=V->Cx c.s c.r n e=U->0<=a->a+2*n<=10->J t=14->
  OY c (AJ e a) t a/\(DF (DP c (AJ e a) t) a=V->Dt (AL c.s c.r n e)=V)):
  ∀(b:List AF) (a:Int) (t:List Bool),b.all (As (J c.s) (J c.r) n)=V->b.any (Cx c.s c.r n)=U->0<=a->a+J b+2*n<=11->J t=14->
  OY c (Bg b a) t a/\∀j,j<J b->DF (DP c (Bg b a) t) (a+j)=V->Dt (AL c.s c.r n (b.getD j K))=V
 |[],a,t,_,_,_,_,_=>by
  rw[Bg];exact⟨⟨Ay,λ_ _=>rfl,λx u=>by cases u⟩,λj h=>by simp at h⟩
 | e :: r, a, t, f, g, k, w, l => by
  simp only[IS,Aj]at f;simp only[List.any_cons,Bool.or_eq_false_iff]at g;simp only[BK]at w;rw[Bg];obtain⟨q,y⟩:=o e a t f.1 g.1 k O l;obtain⟨p,v⟩:=rj o r (a+1) (DP c (AJ e a) t) f.2 g.2 O O (by rw[VP];exact l)
  refine⟨q.app p O,λj h d=>?_⟩
  rw[Nk]at d;cases j with
  |zero=>
   obtain⟨m,rfl⟩:=Int.eq_ofNat_of_zero_le k;have i:(m:Int)+((0:Nat):Int)=(m:Int):=O;rw[i,gM,p.keep m O, <-gM]at d;exact y d
  |succ j=>
   have i:a+((j+1:Nat):Int)=a+1+(j:Int):=O;rw[i]at d;simp only[BK]at h;exact v j O d
theorem vH{a:List AF}{f}{j}(b:j<J a)(h:f (a.getD j K)=V):a.any f=true:=by
 rw[DU b]at h;exact List.any_eq_true.2 ⟨_,EL b,h⟩
theorem qC:(1:Int)≠8/\(1:Int)≠9/\(1:Int)≠10/\(1:Int)≠13:=ED
theorem aa9:(2:Int)≠8/\(2:Int)≠9/\(2:Int)≠10/\(2:Int)≠13:=ED
theorem lV:(3:Int)≠8/\(3:Int)≠9/\(3:Int)≠10/\(3:Int)≠13:=ED
theorem t6:(4:Int)≠8/\(4:Int)≠9/\(4:Int)≠10/\(4:Int)≠13:=ED
theorem ab6:(5:Int)≠8/\(5:Int)≠9/\(5:Int)≠10/\(5:Int)≠13:=ED
theorem un:(6:Int)≠8/\(6:Int)≠9/\(6:Int)≠10/\(6:Int)≠13:=ED
theorem o7:(7:Int)≠8/\(7:Int)≠9/\(7:Int)≠10/\(7:Int)≠13:=ED
theorem i8:(11:Int)≠8/\(11:Int)≠9/\(11:Int)≠10/\(11:Int)≠13:=ED
theorem eY{c}(H:∀k,Af (c.s.getD k 0)=V)(F:∀k,Af (c.r.getD k 0)=V):∀(n:Nat) (e:AF) (a:Int) (t:List Bool),As (J c.s) (J c.r) n e=V->Cx c.s c.r n e=U->0<=a->a+2*n<=10->J t=14->
  OY c (AJ e a) t a/\(DF (DP c (AJ e a) t) a=V->Dt (AL c.s c.r n e)=V)
 |0,e,_,_,h,_,_,_,_=>by simp[As]at h
 | n + 1, ⟨k, v, b⟩, a, t, T, X, m, h4, u => by
  obtain⟨o,q2,q3,S⟩:=gF T;have p:=uj H F n ⟨k,v,b⟩;have p:Dt (AL c.s c.r (n+1) ⟨k,v,b⟩)=(Dt (Fm c.s c.r ⟨k,v,b⟩)||b.any λq=>Dt (AL c.s c.r n q)):=p
  have M:((Y (k=3)&&(Af (AL c.s c.r n (b.getD 0 K))&&Y (AL c.s c.r n (b.getD 0 K)%2=1)))||b.any (Cx c.s c.r n))=false:=by rw[<-X];rfl
  rw[Bool.or_eq_false_iff]at M;obtain⟨E,s2⟩:=M;rw[AJ];split
  ·rename_i L
   have l:GT c ⟨1,a,v,0,0⟩ t=Z false:=rfl;refine⟨WP m O rfl rfl qC,λd=>?_⟩
   rw[Ww (x:=⟨1,a,v,0,0⟩) u m (by show a<14;omega) l]at d;cases d
  split
  ·rename_i L
   subst L;have l:GT c ⟨2,a,v,0,0⟩ t=Z (Dt (Gd c.s v)):=rfl;refine⟨WP m O rfl rfl aa9,λd=>?_⟩
   rw[Ww (x:=⟨2,a,v,0,0⟩) u m (by show a<14;omega) l]at d
   rw[p];have:Fm c.s c.r ⟨2,v,b⟩=Gd c.s v:=rfl;rw[this,d];rfl
  rename_i k1 k2
  have D:J b<=3/\(3<=k/\k<=11)/\(k=3->J b=1)/\(4<=k/\k<=10->J b=2)/\(k=11->J b=3):=by
   simp only[Cm]at o;rw[AO O]at o;split at o
   ·omega
   split at o
   ·omega
   split at o<;>omega
  obtain⟨y,N⟩:=rj (eY H F n) b a t S s2 m O u;have i:(DP c (Bg b a) t).length=14:=by rw[VP];exact u
  have g:∀j:Nat,j<J b->DF (DP c (Bg b a) t) (a+j)=V->Dt (AL c.s c.r (n+1) ⟨k,v,b⟩)=true:=λj P l=>by
   rw[p,vH (f:=λq=>Dt (AL c.s c.r n q)) P (N j P l),Bool.or_true]
  have w:a+((0:Nat):Int)=a:=O;unfold Lp;split
  ·rename_i z
   subst z
   have G:DF (DP c (Bg b a) t) a=false:=by
    cases Q:DF (DP c (Bg b a) t) a
    ·rfl
    have:=N 0 O (by rw[w];exact Q)
    rw[qD,this]at E;simp at E
   have R:HY c ⟨4,a,v,a,0⟩ (DP c (Bg b a) t)=0:=by
    show(if(DF (DP c (Bg b a) t) a)=V then(4:Int)else 0)=0
    rw[G];rfl
   have l:GT c ⟨4,a,v,a,0⟩ (DP c (Bg b a) t)=Z (Dt (Gd c.r v)||DF (DP c (Bg b a) t) a):=rfl
   refine⟨y.app (WP m O rfl R t6) (Int.le_refl _),λd=>?_⟩
   rw[Nk,Ww (x:=⟨4,a,v,a,0⟩) i m (by show a<14;omega) l,G,Bool.or_false]at d
   rw[p];have:Fm c.s c.r ⟨3,v,b⟩=Gd c.r v:=rfl;rw[this,d];rfl
  split
  ·rename_i z C
   have l:GT c ⟨7,a,a,a+1,a+2⟩ (DP c (Bg b a) t)=Z (DF (DP c (Bg b a) t) a||DF (DP c (Bg b a) t) (a+1)||DF (DP c (Bg b a) t) (a+2)):=rfl
   refine⟨y.app (WP m O rfl rfl o7) (Int.le_refl _),λd=>?_⟩
   rw[Nk,Ww (x:=⟨7,a,a,a+1,a+2⟩) i m (by show a<14;omega) l]at d
   simp only[Gg]at d;rcases d with(d|d)|d
   ·exact g 0 O (by rw[w];exact d)
   ·exact g 1 O d
   exact g 2 O d
  rename_i z C
  have l:GT c ⟨6,a,k,a,a+1⟩ (DP c (Bg b a) t)=Z (DF (DP c (Bg b a) t) a||DF (DP c (Bg b a) t) (a+1)):=rfl
  refine⟨y.app (WP m O rfl rfl un) (Int.le_refl _),λd=>?_⟩
  rw[Nk,Ww (x:=⟨6,a,k,a,a+1⟩) i m (by show a<14;omega) l]at d
  simp only[Gg]at d;rcases d with d|d
  ·exact g 0 O (by rw[w];exact d)
  exact g 1 O d
def DW:List Bool:=Ac 9 V++Ac 5 U
def Ra(r:List Bool):Prop:=J r=14/\∀k:Nat,9<=k->r.getD k U=U
theorem KS:Ra DW:=by
 refine⟨rfl,λk a=>?_⟩
 rcases Du k 14 with h|h
 ·have:k=9\/k=10\/k=11\/k=12\/k=13:=O
  rcases this with rfl|rfl|rfl|rfl|rfl<;>rfl
 rw[Bu,FO (by simpa[DW]using h)];rfl
theorem ZA{r}(h:Ra r):GO r DW=true:=by
 refine(QJ _ _).2 ⟨ED,λk b=>?_⟩
 have c:k<9:=by
  rcases Du k 9 with a|a
  ·exact a
  rw[h.2 k a]at b;cases b
 have:k=0\/k=1\/k=2\/k=3\/k=4\/k=5\/k=6\/k=7\/k=8:=O;rcases this with rfl|rfl|rfl|rfl|rfl|rfl|rfl|rfl|rfl<;>rfl
mutual
def SD(c:BY):AG->List (List Bool)
 |⟨k,t,i,v,_,b,e⟩=>
  if k=4 then DW::(JC c b++[DW])
  else if k=1 then Ni c (AJ v 0++[⟨3,t,0,0,0⟩]) DW
  else if k=5 then Ni c (AJ v 0++[⟨11,0,0,0,0⟩,⟨3,t,0,0,0⟩]) DW
  else if k=2 then Ni c (AJ v 0++AJ i 1++[⟨5,t,1,0,0⟩]) DW
  else Ni c (AJ v 0) DW++DP c (AJ v 0) DW::(JC c b++DW::JC c e)
def JC(c:BY):List AG->List (List Bool)
 |[]=>[]
 |s::r=>SD c s++JC c r
end
mutual
theorem ip(c:BY):∀s:AG,(SD c s).length=Ib s
 |⟨k,t,i,v,n,b,e⟩=>by
  rw[SD,Ib];split
  ·simp only[BK,Az,Bc,Sp c b];omega
  split
  ·simp only[UT,BK,Az,Bc]
  split
  ·simp only[UT,BK,Az,Bc]
  split
  ·simp only[UT,BK,Az,Bc]
  simp only[UT,BK,Az,Sp c b,Sp c e];omega
theorem Sp(c:BY):∀ss:List AG,(JC c ss).length=DY ss
 |[]=>rfl
 |s::r=>by rw[JC,DY,Az,ip c s,Sp c r]
end
def KC(c:BY)(p:List (List Bool))(o:Nat)(a:List AV)(b:List (List Bool)):Prop:=
 ∀j:Nat,j<J a->DM c (o+j)=a.getD j K/\Bf p ((o+j:Nat):Int)=b.getD j []
theorem YR{c:Type}{a b:List c}{j}{z:c}(h:j<J a):(a++b).getD j z=a.getD j z:=by
 rw[Bu,Bu,Fb h]
theorem dE{c:Type}{a b:List c}{j}{z:c}:(a++b).getD (J a+j) z=b.getD j z:=by
 rw[Bu,Bu,Ip O,Nat.add_sub_cancel_left]
theorem KC.left{c}{p}{o}{a b}{d f}(h:KC c p o (a++b) (d++f))(g:J d=J a):KC c p o a d:=λj e=>by
 have:=h j (by rw[Az];omega)
 rwa[YR e,YR O]at this
theorem KC.right{c}{p}{o}{a b}{d e}(h:KC c p o (a++b) (d++e))(f:J d=J a):KC c p (o+J a) b e:=λj g=>by
 have:=h (J a+j) (by rw[Az];omega)
 rw[dE,show(J a)+j=J d+j by omega,dE,f]at this
 rwa[<-Nat.add_assoc]at this
theorem KC.one{c}{p}{o}{x}{a}{r}{b}(h:KC c p o (x::a) (r::b)):DM c o=x/\Bf p o=r:=by
 have:=h 0 At;simpa using this
theorem KC.tail{c}{p}{o}{x}{a}{r}{b}(h:KC c p o (x::a) (r::b)):KC c p (o+1) a b:=λj d=>by
 have:=h (j+1) (by simpa using d)
 simp only[List.getD_cons_succ]at this;rwa[show o+(j+1)=o+1+j by omega]at this
def MR(c:BY)(p:List (List Bool))(i:Nat):Prop:=
 (Bf p (i:Int)).length=14/\HY c (DM c i) (Bf p (i:Int))=0/\∀t∈Fv (DM c i) (i:Int),GO (Dh c (DM c i) (Bf p (i:Int))) (Bf p t)=V
theorem nW{x}{i}(h:x.op≠8/\x.op≠9/\x.op≠10/\x.op≠13):Fv x i=[i+1]:=by
 unfold Fv;rw[AO h.2.2.2,AO h.1,AO O]
theorem gm{c}{p}:∀a r o,KC c p o a (Ni c a r)->J r=14->(∀x∈a,x.op≠8/\x.op≠9/\x.op≠10/\x.op≠13)->PS c a r->
  GO (DP c a r) (Bf p ((o+J a:Nat)))=V->∀j,j<J a->MR c p (o+j)
 |[],_,_,_,_,_,_,_,j,f=>by simp at f
 | x :: t, r, o, e, h, b, i, k, j, f => by
  have g:=e.one;cases j with
  | zero =>
   rw[Fx];unfold MR;rw[g.1,g.2,nW (b x EI)];refine⟨h,i.1,λy d=>?_⟩
   rw[Dw]at d;subst d;rw[show(o:Int)+1=((o+1:Nat):Int) by omega]
   cases t with
   |nil=>exact k
   |cons n m=>
    have l:=e.tail.one;rw[l.2];exact(QJ _ _).2 ⟨by rw[RM];omega,Iw.refl _⟩
  |succ j=>
   simp only[BK]at f;have:=gm t (Dh c x r) (o+1) e.tail (by rw[RM];exact h) (λy d=>b y (Ep _ d)) i.2 (by rw[show o+1+J t=o+(x::t).length by simp only[BK];omega];exact k) j O
   rwa[show o+1+j=o+(j+1) by omega]at this
theorem Wy{c}{e}{t}{a}(h:OY c e t a)(d:Ra t):Ra (DP c e t):=by
 refine⟨by rw[VP];exact d.1,λk b=>?_⟩
 rw[h.keep k (.inr b)];exact d.2 k b
theorem te{c}{a}{r}(h:a≠[]):(Ni c a r).getD 0 []=r:=by
 cases a with
 |nil=>exact absurd rfl h
 |cons x t=>rfl
theorem nA{x y a}(d:Af x=V)(c:Af a=V)(h:Gw (AR x a) y=V)(i:Dt x=V):Dt y=true:=by
 have b:Af y=true:=by unfold Gw at h;simp only[Aj]at h;exact h.1.2
 unfold Af at d c b;simp only[Aj,decide_eq_true_eq]at d c b;have e:x=0\/x=1\/x=2\/x=3:=O;have g:y=0\/y=1\/y=2\/y=3:=O;have f:a=0\/a=1\/a=2\/a=3:=O;rcases e with rfl|rfl|rfl|rfl<;>rcases g with rfl|rfl|rfl|rfl<;>rcases f with rfl|rfl|rfl|rfl<;>revert h i<;>decide+kernel
theorem mM{c}{t}{r}(h:DF r 0=V->Dt (Gd c.s t)=V):HY c ⟨3,t,0,0,0⟩ r=0:=by
 show(if(DF r 0&& !Dt (Gd c.s t))=V then(1:Int)else 0)=0
 cases a:DF r 0
 ·rfl
 rw[h a];rfl
theorem xY{c}{t}{r}(a:DF r 1=U)(h:DF r 0=V->Dt (Gd c.r t)=V):HY c ⟨5,t,1,0,0⟩ r=0:=by
 show(if DF r 1=V then(4:Int)else if(DF r 0&& !Dt (Gd c.r t))=V then 1 else 0)=0
 rw[a];cases b:DF r 0
 ·rfl
 rw[h b];rfl
theorem oq{r}{k}(h:Ra r):Ra (r.set k U):=by
 refine⟨by rw[GP];exact h.1,λj a=>?_⟩
 rw[Rv];split
 ·rfl
 exact h.2 j a
theorem jc{c}{p}{o}{a}{E}(e:KC c p o a (Ni c a DW))(d:∀x∈a,x.op≠8/\x.op≠9/\x.op≠10/\x.op≠13)(k:PS c a DW)(g:DP c a DW=E)(i:Ra E)
  (f:Bf p ((o+J a:Nat))=DW) (b:a≠[]):Bf p o=DW/\∀j,j<J a->MR c p (o+j):=by
 refine⟨?_,gm a DW o e KS.1 d k (by rw[g,f];exact ZA i)⟩
 have h:0<J a:=by cases a with|nil=>exact absurd rfl b|cons _ _=>simp
 have:=(e 0 h).2;rwa[te b,Fx]at this
theorem kC{c}{p}{n}{d pc}(i:∀s o,Ax (J c.s) (J c.r) n s=V->Gx c.s c.r V n pc s=0->KC c p o (NO s d o) (SD c s)->Bf p ((o+Ib s:Nat))=DW->Bf p o=DW/\∀j,j<Ib s->MR c p (o+j)):
  ∀a o,a.all (Ax (J c.s) (J c.r) n)=V->(∀s∈a,Gx c.s c.r V n pc s=0)->KC c p o (Gs a d o) (JC c a)->Bf p ((o+DY a:Nat))=DW->Bf p o=DW/\∀j,j<DY a->MR c p (o+j)
 |[],o,_,_,_,h=>⟨by simpa[DY]using h,λj q=>by simp[DY]at q⟩
 |s::r,o,f,m,e,k=>by
  simp only[IS,Aj]at f;rw[Gs,JC]at e;rw[DY]at k ⊢;have t:(SD c s).length=(NO s d o).length:=by rw[ip,WB]
  have g:=e.right t;rw[WB]at g;obtain⟨z,w⟩:=kC i r (o+Ib s) f.2 (λx v=>m x (Ep _ v)) g (by rw[Nat.add_assoc];exact k)
  obtain⟨u,y⟩:=i s o f.1 (m s EI) (e.left t) z;refine⟨u,λj q=>?_⟩
  rcases Du j (Ib s)with b|b
  ·exact y j b
  have:=w (j-Ib s) O;rwa[show o+Ib s+(j-Ib s)=o+j by omega]at this
theorem vV{c a}{s}{d}(h:Ff ⟨c,a,[]⟩ s d V=0):GX ⟨c,a,[]⟩ s d=0/\LS ⟨c,a,[]⟩ s=0:=by
 unfold Ff at h;split at h
 ·rename_i b
  exact⟨b,by simpa using h⟩
 rename_i b;exact absurd h b
theorem ab8{d a}{k t c}{i v}{b e}(h:LS ⟨d,a,[]⟩ ⟨k,t,i,v,c,b,e⟩=0):(k=3->Dt (AL d a 5 v)=U)/\(k≠4->Cx d a 5 v=U)/\(k=2->Dt (AL d a 5 i)=U):=by
 have h:(if k=3/\Dk (AL d a 5 v)=V then(3:Int)else if(k≠4/\Cx d a 5 v=V)\/(k=2/\Dk (AL d a 5 i)=V)then 4 else 0)=0:=h
 have m:∀l,Dk l=Dt l:=qD;rw[m,m]at h;split at h
 ·cases h
 rename_i n
 split at h
 ·cases h
 rename_i j
 refine⟨λf=>?_,λf=>?_,λf=>?_⟩
 ·cases g:Dt (AL d a 5 v)
  ·rfl
  exact absurd ⟨f,g⟩ n
 ·cases g:Cx d a 5 v
  ·rfl
  exact absurd (.inl ⟨f,g⟩) j
 cases g:Dt (AL d a 5 i)
 ·rfl
 exact absurd (.inr ⟨f,g⟩) j
theorem vd{d a}{k t c f}{i v}{b e}(h:GX ⟨d,a,[]⟩ ⟨k,t,i,v,c,b,e⟩ f=0):(k=1->Gw (AR (AL d a 5 v) f) (Gd d t)=V)/\(k=2->Gw (AR (AR (AL d a 5 v) (AL d a 5 i)) f) (Gd a t)=V):=by
 have h:(if k=1 then(if Gw (AR (AL d a 5 v) f) (d.getD t.toNat 0)=V then(0:Int)else 1)
  else if k=2 then(if Gw (AR (AR (AL d a 5 v) (AL d a 5 i)) f) (a.getD t.toNat 0)=V then 0 else 1)
  else if k=5 then(if((Af (AL d a 5 v)&&Y (AL d a 5 v<=1))&&Y (f=0))=V then 0 else 2)
  else 0)=0:=h
 refine⟨λg=>?_,λg=>?_⟩
 ·rw[AZ g]at h
  split at h
  ·assumption
  cases h
 rw[AO O,AZ g]at h;split at h
 ·assumption
 cases h
theorem J1{c d}{e}(h:CQ c d e=V)(a:Eo e=V):As c d 1 e=V/\e.k=[]:=by
 unfold CQ at h;rw[Aj]at h;obtain⟨k,v,g⟩:=e;have b:=h.1;rw[As,Aj,Aj]at b;obtain⟨i,_,_,_⟩:=gF h.1;have a:(Y (k=1)||Y (k=2))=true:=a
 simp only[Gg,decide_eq_true_eq]at a;have:Cm k=0:=by unfold Cm;rw[AZ a]
 have f:g=[]:=FM O;subst f;refine⟨?_,rfl⟩;rw[As,b.1.1,b.2];rfl
theorem zi{b a}{e}(h:e.k=[])(m n):AL b a (m+1) e=AL b a (n+1) e:=by
 simp only[AL,h,List.foldl_nil]
theorem wT{c a}{e}(h:e.k=[])(b:Eo e=V)(n):Cx c a (n+1) e=false:=by
 unfold Eo at b;simp only[Gg,decide_eq_true_eq]at b;exact QV (by rw[h];rfl) O
theorem uT{a d n}{k t c}{i v}{b e}(h:Ax a d (n+1) ⟨k,t,i,v,c,b,e⟩=V)(f:k=2):Eo i=true:=by
  rw[Ax,Aj]at h;obtain⟨_,h⟩:=h
  have h:(if k=1\/k=5 then Y (0<=t)&&Y (t<a)&&CQ a d v
     else if k=2 then Y (0<=t)&&Y (t<d)&&CQ a d i&&Eo i&&CQ a d v
     else if k=3 then CQ a d v&&b.all (Ax a d n)&&e.all (Ax a d n)
     else if k=4 then b.all (Ax a d n)
     else U)=true:=h
  rw[AO O,AZ f]at h;simp only[Aj]at h;exact h.1.2
theorem wp{a d n}{k t c}{i v}{b e}(h:Ax a d (n+1) ⟨k,t,i,v,c,b,e⟩=V)(j:¬k=4)(g:¬k=1)(l:¬k=5)(f:¬k=2):k=3:=by
  rw[Ax,Aj]at h;obtain⟨_,h⟩:=h
  have h:(if k=1\/k=5 then Y (0<=t)&&Y (t<a)&&CQ a d v
     else if k=2 then Y (0<=t)&&Y (t<d)&&CQ a d i&&Eo i&&CQ a d v
     else if k=3 then CQ a d v&&b.all (Ax a d n)&&e.all (Ax a d n)
     else if k=4 then b.all (Ax a d n)
     else U)=true:=h
  rw[AO O,AO f]at h;split at h
  · assumption
  cases h
theorem V7{a b}{e}(h:CQ a b e=V):As a b 5 e=true:=by
 unfold CQ at h;rw[Aj]at h;exact h.1
theorem zs{k}(h:9<=k):DF DW k=false:=by
 obtain⟨m,rfl⟩:=Int.eq_ofNat_of_zero_le (show 0<=k by omega)
 rw[gM];exact KS.2 m O
theorem aP{r}(h:J r=14):GO r r=true:=(QJ _ _).2 ⟨O,Iw.refl _⟩
theorem ZB{a b:List AV}(h:∀x∈a,x.op≠8/\x.op≠9/\x.op≠10/\x.op≠13)(k:∀x∈b,x.op≠8/\x.op≠9/\x.op≠10/\x.op≠13):∀x∈a++b,x.op≠8/\x.op≠9/\x.op≠10/\x.op≠13:=by
 intro x c;rcases DQ.1 c with c|c
 ·exact h x c
 exact k x c
theorem Xo{x:AV}(h:x.op≠8/\x.op≠9/\x.op≠10/\x.op≠13):∀y∈[x],y.op≠8/\y.op≠9/\y.op≠10/\y.op≠13:=by
 intro y a;rw[Dw]at a;subst a;exact h
theorem X5{c}{p}(hv:∀k,Af (c.s.getD k 0)=V)(ha:∀k,Af (c.r.getD k 0)=V):
  ∀(n:Nat) (d M:Int) (s:AG) (o:Nat),Af M=V->0<=d->d+n<=5->Ax (J c.s) (J c.r) n s=V->Gx c.s c.r V n M s=0->KC c p o (NO s d o) (SD c s)->Bf p ((o+Ib s:Nat))=DW->
  Bf p o=DW/\∀j,j<Ib s->MR c p (o+j):=by
 intro n;induction n with
 |zero=>intro d M s o _ _ _ h;simp[Ax]at h
 | succ n ih =>
  intro d M s o G h0 h1 S aJ f l;obtain⟨k,t,i,v,RL,b,e⟩:=s;have g:=WB ⟨k,t,i,v,RL,b,e⟩ d o;have m:=ip c ⟨k,t,i,v,RL,b,e⟩;obtain⟨p4,p1,p2,p3⟩:=nz S;obtain⟨w1,w2,w3⟩:=ZX.1 aJ;obtain⟨hf,aL⟩:=vV w1;obtain⟨l3,l4,l2⟩:=ab8 aL;obtain⟨f1,f2⟩:=vd hf
  have aD:Af (EM ⟨c.s,c.r,[]⟩ ⟨k,t,i,v,RL,b,e⟩ M)=true:=by
   show Af (if k=3 then AR M (AL c.s c.r 5 v)else M)=V
   split
   ·exact(fP G (Uo hv ha 5 v)).2
   exact G
  generalize EM ⟨c.s,c.r,[]⟩ ⟨k,t,i,v,RL,b,e⟩ M=F at w2 w3 aD;have w2:∀s∈b,Gx c.s c.r V n F s=0:=w2;have w3:∀s∈e,Gx c.s c.r V n F s=0:=w3;have T:=fun(o:Nat) (ss:List AG)=>kC (c:=c) (p:=p) (n:=n) (d:=d+1) (pc:=F) (λs o q1 q2 q3 q4=>ih (d+1) F s o aD O O q1 q2 q3 q4) ss o
  rw[NO]at f g;rw[SD]at f m;rw[Ib]at l g m ⊢
  have w:k≠4->CQ (J c.s) (J c.r) v=V->OY c (AJ v 0) DW 0/\(DF (DP c (AJ v 0) DW) 0=V->Dt (AL c.s c.r 5 v)=V):=λhk H=>
   eY hv ha 5 v 0 DW (V7 H) (l4 hk) O O KS.1
  by_cases L:k=4
  ·simp only[AZ L]at f g m l ⊢
   obtain⟨_,_,z⟩:=p4 L;have s0:=f.one;have hl:(JC c b).length=(Gs b (d+1) (o+1)).length:=by rw[Sp,Lx]
   have sb:=f.tail.left hl;have sl:=(f.tail.right hl).one;rw[Lx]at sl;obtain⟨b1,b2⟩:=T (o+1) b z w2 sb sl.2;refine⟨s0.2,λj hj=>?_⟩
   by_cases j0:j=0
   ·subst j0
    rw[Fx];unfold MR;rw[s0.1,s0.2];refine⟨KS.1,rfl,λy q=>?_⟩
    rw[nW qC,Dw]at q;subst q;rw[show(o:Int)+1=((o+1:Nat):Int) by omega,b1]
    exact ZA (oq KS)
   by_cases jl:j<1+DY b
   ·have:=b2 (j-1) O
    rwa[show o+1+(j-1)=o+j by omega]at this
   have je:o+j=o+1+DY b:=O;rw[je];unfold MR;rw[sl.1,sl.2];refine⟨KS.1,?_,λy q=>?_⟩
   ·show(if DF DW (9+d)=V then(3:Int)else 0)=0
    rw[zs O];rfl
   have q:y∈[((o+1+DY b:Nat):Int)+1,((o+1:Nat):Int)]:=q;simp only[Eb,It,or_false]at q;show GO DW (Bf p y)=V;rcases q with rfl|rfl
   ·rw[show((o+1+DY b:Nat):Int)+1=((o+(2+DY b):Nat):Int) by omega,l];exact aP KS.1
   rw[b1];exact aP KS.1
  simp only[AO L]at f g m l ⊢;by_cases k1:k=1
  ·simp only[AZ k1]at f g m l ⊢
   obtain⟨_,H⟩:=p1 (.inl k1);obtain⟨u,e2⟩:=w L H;have D:HY c ⟨3,t,0,0,0⟩ (DP c (AJ v 0) DW)=0:=mM λz=>nA (Uo hv ha 5 v) G (f1 k1) (e2 z)
   have:=jc f (ZB u.ops (Xo lV)) ((VG _ _ _ _).2 ⟨u.fine,D,Ay⟩) (E:=DP c (AJ v 0) DW) (by rw[Nk];rfl) (Wy u KS) (by rw[g];exact l) At
   rwa[g]at this
  simp only[AO k1]at f g m l ⊢;by_cases k5:k=5
  ·simp only[AZ k5]at f g m l ⊢
   obtain⟨_,H⟩:=p1 (.inr k5);obtain⟨u,e2⟩:=w L H;have aV:Dh c ⟨11,0,0,0,0⟩ (DP c (AJ v 0) DW)=(DP c (AJ v 0) DW).set 0 false:=rfl
   have X:DF ((DP c (AJ v 0) DW).set 0 U) 0=false:=by
    unfold DF;rw[Rv,AZ ⟨rfl,by rw[VP];decide⟩]
   have D:HY c ⟨3,t,0,0,0⟩ ((DP c (AJ v 0) DW).set 0 U)=0:=mM λz=>by rw[X]at z;cases z
   have:=jc f (show ∀x∈AJ v 0++[⟨11,0,0,0,0⟩,⟨3,t,0,0,0⟩],x.op≠8/\x.op≠9/\x.op≠10/\x.op≠13 from ZB u.ops (ZB (a:=[⟨11,0,0,0,0⟩]) (b:=[⟨3,t,0,0,0⟩]) (Xo i8) (Xo lV))) ((VG _ _ _ _).2 ⟨u.fine,rfl,D,Ay⟩) (E:=(DP c (AJ v 0) DW).set 0 U) (by rw[Nk];rfl) (oq (Wy u KS)) (by rw[g];exact l) At
   rwa[g]at this
  simp only[AO k5]at f g m l ⊢;by_cases N:k=2
  ·simp only[AZ N]at f g m l ⊢
   obtain⟨_,aS,H⟩:=p2 N;obtain⟨u,e2⟩:=w L H;have aC:=uT S N;obtain⟨aG,aE⟩:=J1 aS aC;have Q:=Wy u KS;obtain⟨Bs,g2⟩:=eY hv ha 1 i 1 (DP c (AJ v 0) DW) aG (wT aE aC 0) O O Q.1;have aI:AL c.s c.r 1 i=AL c.s c.r 5 i:=zi aE 0 4
   have aN:DF (DP c (AJ i 1) (DP c (AJ v 0) DW)) 1=false:=by
    cases hq:DF (DP c (AJ i 1) (DP c (AJ v 0) DW)) 1
    ·rfl
    have:=g2 hq;rw[aI,l2 N]at this;cases this
   have X:DF (DP c (AJ i 1) (DP c (AJ v 0) DW)) 0=V->Dt (Gd c.r t)=true:=λz=>by
    have hk:=Bs.keep 0 (.inl ED);have z:(DP c (AJ i 1) (DP c (AJ v 0) DW)).getD 0 U=true:=z;rw[hk]at z;have aH:=e2 z;have aF:=fP (Uo hv ha 5 v) (Uo hv ha 5 i);exact nA aF.2 G (f2 N) (by rw[aF.1,aH];rfl)
   have e3:=u.app Bs O;have aB:DP c (AJ v 0++AJ i 1++[⟨5,t,1,0,0⟩]) DW=DP c (AJ i 1) (DP c (AJ v 0) DW):=by rw[Nk,Nk];rfl
   have:=jc f (ZB e3.ops (Xo ab6)) ((VG _ _ _ _).2 ⟨e3.fine,by rw[Nk];exact xY aN X,Ay⟩) aB (Wy Bs Q) (by rw[g];exact l) At
   rwa[g]at this
  simp only[AO N]at f g m l ⊢;have k3:=wp S L k1 k5 N;obtain⟨H,z,he⟩:=p3 L k1 k5 N;obtain⟨u,e2⟩:=w L H;have Q:=Wy u KS
  have hz:DF (DP c (AJ v 0) DW) 0=false:=by
   cases hq:DF (DP c (AJ v 0) DW) 0
   ·rfl
   have:=e2 hq;rw[l3 k3]at this;cases this
  have lv:(Ni c (AJ v 0) DW).length=(AJ v 0).length:=UT _ _ _;have sv:=f.left lv;have st:=f.right lv;have sz:=st.one;have lb:(JC c b).length=(Gs b (d+1) (o+(AJ v 0).length+1)).length:=by rw[Sp,Lx]
  have sb:=st.tail.left lb;have P:=st.tail.right lb;rw[Lx]at P;have sj:=P.one;have se:=P.tail
  have C:Bf p ((o+(AJ v 0).length+1+DY b+1+DY e:Nat):Int)=DW:=by
   rw[show o+(AJ v 0).length+1+DY b+1+DY e=o+((AJ v 0).length+2+DY b+DY e) by omega];exact l
  obtain⟨aU,aR⟩:=T _ e he w3 se C;obtain⟨aQ,aO⟩:=T _ b z w2 sb sj.2;have aM:=gm (AJ v 0) DW o sv KS.1 u.ops u.fine (by rw[sz.2];exact aP Q.1)
  refine⟨?_,λj hj=>?_⟩
  ·by_cases R:AJ v 0=[]
   ·have h1:=sz.2
    rw[R]at h1;simpa[DP]using h1
   have h0:0<(AJ v 0).length:=List.length_pos_iff.2 R;have:=(sv 0 h0).2;rwa[te R,Fx]at this
  by_cases ja:j<(AJ v 0).length
  ·exact aM j ja
  by_cases jz:j=(AJ v 0).length
  ·subst jz
   unfold MR;rw[sz.1,sz.2];refine⟨Q.1,?_,λy q=>?_⟩
   ·show(if DF (DP c (AJ v 0) DW) 0=V then(3:Int)else 0)=0
    rw[hz];rfl
   have q:y∈[((o+(AJ v 0).length:Nat):Int)+1,((o+(AJ v 0).length+1+DY b+1:Nat):Int)]:=q;simp only[Eb,It,or_false]at q;show GO (DP c (AJ v 0) DW) (Bf p y)=V;rcases q with rfl|rfl
   ·rw[show((o+(AJ v 0).length:Nat):Int)+1=((o+(AJ v 0).length+1:Nat):Int) by omega,aQ];exact ZA Q
   rw[aU];exact ZA Q
  by_cases jb:j<(AJ v 0).length+1+DY b
  ·have:=aO (j-((AJ v 0).length+1)) O
   rwa[show o+(AJ v 0).length+1+(j-((AJ v 0).length+1))=o+j by omega]at this
  by_cases jj:j=(AJ v 0).length+1+DY b
  ·rw[show o+j=o+(AJ v 0).length+1+DY b by omega]
   unfold MR;rw[sj.1,sj.2];refine⟨KS.1,rfl,λy q=>?_⟩
   have q:y∈[((o+(AJ v 0).length+1+DY b+1+DY e:Nat):Int)]:=q;rw[Dw]at q;subst q;show GO DW (Bf p _)=V;rw[C];exact aP KS.1
  have:=aR (j-((AJ v 0).length+1+DY b+1)) O;rwa[show o+(AJ v 0).length+1+DY b+1+(j-((AJ v 0).length+1+DY b+1))=o+j by omega]at this
theorem tC{a:List Int}(h:a.all Af=V)(k):Af (a.getD k 0)=true:=by
 rw[Bu];cases e:a[k]? with
 |none=>rfl
 |some x=>exact Bt.1 h x (FF e)
theorem xf(p):(Ed p).1=Gs p.b 0 0++[⟨13,0,0,0,0⟩]:=by
 unfold Ed;show(AW p.b 0 ([],[],0)).1++_=_;rw[TX];rfl
theorem H5{p}(hp:BZ p=V)(h:(UP p).1=0):Mw ⟨p.s,p.r,(Ed p).1⟩:=by
 obtain⟨_,_,h2⟩:=(lJ p).1 h;have E:=hp;simp only[BZ,MG,Gf,Aj,decide_eq_true_eq]at E;obtain⟨⟨⟨⟨⟨⟨T,R⟩,_⟩,_⟩,_⟩,N⟩,_⟩:=E;generalize v:(⟨p.s,p.r,(Ed p).1⟩:BY)=c;have u:c.s=p.s:=by rw[<-v]
 have x:c.r=p.r:=by rw[<-v]
 have w:c.l=Gs p.b 0 0++[⟨13,0,0,0,0⟩]:=by rw[<-v];exact xf p
 have M:(Gs p.b 0 0).length=DY p.b:=Lx _ _ _;have H:(JC c p.b).length=DY p.b:=Sp _ _
 have k:KC c (JC c p.b++[DW]) 0 (Gs p.b 0 0) (JC c p.b):=λj L=>by
  refine⟨?_,?_⟩
  ·unfold DM
   rw[w,GS,YR L];rw[Bu,Bu,CF L];rfl
  unfold Bf;rw[GS,Gb,YR O]
 have f:Bf (JC c p.b++[DW]) ((DY p.b:Nat):Int)=DW:=by
  unfold Bf;rw[Gb];have:=dE (a:=JC c p.b) (b:=[DW]) (j:=0) (z:=[]);rw[Fx,H]at this;exact this
 have D:DM c (DY p.b)=⟨13,0,0,0,0⟩:=by
  unfold DM;rw[w];have:=dE (a:=Gs p.b 0 0) (b:=[(⟨13,0,0,0,0⟩:AV)]) (j:=0) (z:=⟨0,0,0,0,0⟩);rw[Fx,M]at this;exact this
 obtain⟨Bs,Q⟩:=kC (c:=c) (p:=JC c p.b++[DW]) (n:=5) (d:=0) (pc:=0) (λs o F G y X=>X5 (by rw[u];exact tC T) (by rw[x];exact tC R) 5 0 0 s o rfl O O F G y X) p.b 0 (by rw[u,x];exact N) (by rw[u,x];exact h2) k (by rw[GS];exact f)
 have g:(JC c p.b++[DW]).length=DY p.b+1:=by rw[Az,H];rfl
 have C:J c.l=DY p.b+1:=by rw[w,Az,M];rfl
 have e:∀i:Nat,i<DY p.b+1->MR c (JC c p.b++[DW]) i:=λi q=>by
  by_cases P:i<DY p.b
  ·have:=Q i P;rwa[GS]at this
  obtain rfl:i=DY p.b:=O;unfold MR;rw[f,D];exact⟨KS.1,rfl,λt m=>by cases m⟩
 refine⟨JC c p.b++[DW],⟨by rw[g,C],?_,?_,λi q=>?_⟩,Ss.2 λi q=>.inr (e i O).2.1⟩
 ·rw[Bt]
  intro r S;obtain⟨i,q,rfl⟩:=List.getElem_of_mem S;have:=(e i O).1;rw[ZW q]at this;simp only[Pb,Gg,decide_eq_true_eq];exact .inr this
 ·have:=(e 0 O).1
  rw[show((0:Nat):Int)=0 from rfl]at this;omega
 obtain⟨F,G,y⟩:=e i O;unfold Ky;rw[decide_eq_false O,Bool.false_or,Bt];intro t m;rw[PE O, <-IV O]at m;exact y t m
end Go.Proofs.YtfbeblgnjeokaaaGreat
