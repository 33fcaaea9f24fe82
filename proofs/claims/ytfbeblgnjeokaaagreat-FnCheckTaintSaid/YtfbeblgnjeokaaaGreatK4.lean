/- Part 4: functions on the way, plain laws. Conditions: as said. -/
import Derived.Laws.Small
import Derived.WideLaws
import Derived.Great.BuildSlice
import Derived.Test.YtfbeblgnjeokaaaGreatK1
set_option maxRecDepth 100000
set_option maxHeartbeats 16000000
set_option linter.unusedVariables false
set_option linter.unusedSimpArgs false
open Bool renaming and_eq_true → cm9, not_eq_true' → co9, or_eq_true → cr2
open Inhabited renaming default → cm7
open List renaming all_eq_true → cn8, append_assoc → cr6, eq_nil_of_length_eq_zero → co7, getD_eq_getElem?_getD → cn2, getElem?_append_left → co2, getElem?_append_right → cp9, getElem?_cons_zero → cn1, getElem?_eq_getElem → cn0, getElem?_eq_none → cp0, getElem?_eq_some_iff → co0, getElem?_replicate → cr1, getElem_mem → co6, length_append → cn3, length_cons → cn6, length_replicate → co5, map_cons → cq5, mem_append → cp2, mem_cons → cq9, mem_cons_of_mem → cq8, mem_cons_self → cr0, mem_of_getElem? → cp6, mem_range → cq6, mem_singleton → cq2, range → co4, replicate → cm8
open Nat renaming le_refl → cn4, le_trans → cp4, lt_of_lt_of_le → cq4, lt_or_ge → cp1, mul_le_mul_right → cr3, succ_mul → cq7, zero_add → cr4, zero_le → cp5
open Option renaming isSome_iff_exists → cr7, map_eq_some_iff → cn9
open True renaming intro → co8

namespace Go.Proofs.YtfbeblgnjeokaaaGreat
open Go Go.RowKit
inductive Rs where
 |box (b:Nat) (cs:List Value)
 |row (e:TypeId) (sz:Nat) (v:Value) (n:Nat) (R:List Value->World->(Nat->Prop)->Prop)
 |dat (R:World->(Nat->Prop)->Prop)
 |own (S:Nat->Prop) (R:World->Prop)
def Rs.none:Rs:=.dat fun _ _=>True
def Rs.blk:Rs->Nat->Prop
 |.box b _=>fun g=>g=b
 |.row _ _ v _ _=>fun g=>v.ownBlock=some g
 |.dat _=>fun _=>False
 |.own S _=>S
def FrF{ι:Type}(φ:Nat->Prop)(L:ι->Rs)(b:Nat):Prop:=φ b/\∀i,¬(L i).blk b
def Rs.holds(w:World)(φ:Nat->Prop):Rs->Prop
 |.box b cs=>D3 w b cs
 |.row e sz v n R=>(∀xs,ah3 (R xs))/\∃xs,w.ownsRow 0 e sz v n xs/\R xs w φ
 |.dat R=>ah3 R/\R w φ
 |.own S R=>(∀w w',R w->(∀b,S b->b<w.heap.size->w'.heap[b]? =w.heap[b]?)->R w')/\R w/\∀b,S b->b<w.heap.size
theorem bu1:ah3 fun _ _=>True:=fun _ _ _ _ _ h=>h
theorem Rs.none_holds(w:World)(φ:Nat->Prop):Rs.none.holds w φ:=⟨bu1,co8⟩
structure k8{ι:Type}(φ ψ:Nat->Prop)(w0 w:World)(L:ι->Rs):Prop where
 kept:C6 ψ w0 w
 fresh:∀b,w0.heap.size<=b->φ b
 env:bT3 ψ w0
 holds:∀i,(L i).holds w (FrF φ L)
 dis:∀i j g,i≠j->(L i).blk g->¬(L j).blk g
 ge:∀i b,(L i).blk b->w0.heap.size<=b\/¬ψ b
 ph:∀i b,(L i).blk b->φ b
section
variable{ι κ:Type}{φ ψ:Nat->Prop}{w0 w w':World}{L:ι->Rs}
theorem Rs.lt{r:Rs}(h:r.holds w φ){b:Nat}(hb:r.blk b):b<w.heap.size:=by
 cases r with
 |box b' cs=>cases hb;exact D3.lt h
 |row e sz v n R=>obtain⟨_,xs,h1,_⟩:=h;exact(World.ownsRow.lt h1 b hb).2
 |dat R=>cases hb
 |own S R=>exact h.2.2 b hb
theorem k8.lt(M:k8 φ ψ w0 w L){i:ι}{b:Nat}(hb:(L i).blk b):b<w.heap.size:=Rs.lt (M.holds i) hb
theorem k8.size(M:k8 φ ψ w0 w L):w0.heap.size<=w.heap.size:=M.kept.size
theorem Rs.keep{φ':Nat->Prop}{r:Rs}(h:r.holds w φ)(ha:Agr φ φ' w w')(hb:∀b,r.blk b->w'.heap[b]? =w.heap[b]?):r.holds w' φ':=by
 cases r with
 |box b cs=>obtain⟨T,h⟩:=h;exact⟨T,(hb b rfl).trans h⟩
 |row e sz v n R=>
  obtain⟨hn,xs,h1,h2⟩:=h
  exact⟨hn,xs,(C5.same (lo:=0) (hi:=w.heap.size) ⟨h1,fun g hg=>(World.ownsRow.lt h1 g hg).2⟩ hb).1,hn xs _ _ _ _ ha h2⟩
 |dat R=>exact⟨h.1,h.1 _ _ _ _ ha h.2⟩
 |own S R=>exact⟨h.1,h.1 _ _ h.2.1 fun b hs _=>hb b hs,fun b hs=>cq4 (h.2.2 b hs) ha.1⟩
theorem k8.call(M:k8 φ ψ w0 w L)(b:Below w.heap.size w w'):k8 φ ψ w0 w' L:=
 ⟨M.kept.trans (C6.of_below b fun _ h _=>h),M.fresh,M.env,fun i=>Rs.keep (M.holds i) (Agr.below b) fun g hg=>b.block g (M.lt hg),M.dis,M.ge,M.ph⟩
theorem k8.drew(M:k8 φ ψ w0 w L):k8 φ ψ w0 w.drew L:=M.call (Below.refl _ _).drew
theorem k8.put(M:k8 φ ψ w0 w L)(i:ι){L':ι->Rs}(ho:∀j,j≠i->L' j=L j)(hk:C6 (fun b=>¬(L i).blk b) w w')(h:(L' i).holds w' (FrF φ L'))(hg:∀g,(L' i).blk g->(L i).blk g\/w.heap.size<=g):k8 φ ψ w0 w' L':=by
 have hfr:∀b,b<w.heap.size->FrF φ L b->FrF φ L' b:=fun b hb hf=>⟨hf.1,fun j hj=>by
  by_cases e:j=i
  ·subst e
   rcases hg b hj with h|h
   ·exact hf.2 _ h
   omega
  rw[ho j e]at hj;exact hf.2 _ hj⟩
 refine⟨⟨hk.os.trans M.kept.os,hk.tape.trans M.kept.tape,hk.output.trans M.kept.output,cp4 M.size hk.size,fun b hb hp=>(hk.block b (cq4 hb M.size) fun he=>?_).trans (M.kept.block b hb hp)⟩,M.fresh,M.env,fun j=>?_,fun j k g hjk hj hk'=>?_,fun j b hj=>?_,fun j b hj=>?_⟩
 ·rcases M.ge i b he with h'|h'
  ·omega
  exact h' hp
 ·by_cases e:j=i
  ·subst e;exact h
  rw[ho j e]
  exact Rs.keep (M.holds j) ⟨hk.size,fun b hb hf=>⟨hfr b hb hf,hk.block b hb (hf.2 i)⟩⟩ fun g hgx=>hk.block g (M.lt hgx) fun he=>M.dis j i g e hgx he
 ·by_cases e:j=i
  ·subst e
   rw[ho k (fun e=>hjk e.symm)]at hk'
   rcases hg g hj with h'|h'
   ·exact M.dis _ _ g hjk h' hk'
   have:=M.lt hk';omega
  rw[ho j e]at hj
  by_cases e':k=i
  ·subst e'
   rcases hg g hk' with h'|h'
   ·exact M.dis _ _ g hjk hj h'
   have:=M.lt hj;omega
  rw[ho k e']at hk';exact M.dis _ _ g hjk hj hk'
 ·by_cases e:j=i
  ·subst e
   rcases hg b hj with h'|h'
   ·exact M.ge _ b h'
   exact .inl (cp4 M.size h')
  rw[ho j e]at hj;exact M.ge _ b hj
 by_cases e:j=i
 ·subst e
  rcases hg b hj with h'|h'
  ·exact M.ph _ b h'
  exact M.fresh b (cp4 M.size h')
 rw[ho j e]at hj;exact M.ph _ b hj
theorem k8.map(M:k8 φ ψ w0 w L){L':κ->Rs}(g:κ->Option ι)(hi:∀k k' i,g k=some i->g k'=some i->k=k')(h:∀k,(∃i,g k=some i/\L' k=L i)\/L' k=Rs.none):k8 φ ψ w0 w L':=by
 have hb:∀k b,(L' k).blk b->∃i,g k=some i/\L' k=L i:=fun k b hb=>by
  rcases h k with h|h
  ·exact h
  rw[h]at hb;exact hb.elim
 have hfr:∀b,FrF φ L b->FrF φ L' b:=fun b hf=>⟨hf.1,fun k hk=>by
  obtain⟨i,_,e⟩:=hb k b hk
  rw[e]at hk;exact hf.2 i hk⟩
 refine⟨M.kept,M.fresh,M.env,fun k=>?_,fun k k' b hkk h1 h2=>?_,fun k b h1=>?_,fun k b h1=>?_⟩
 ·rcases h k with⟨i,_,e⟩|e
  ·rw[e];exact Rs.keep (M.holds i) (Agr.mono fun b _ hf=>hfr b hf) fun _ _=>rfl
  rw[e];exact Rs.none_holds _ _
 ·obtain⟨i,e1,e2⟩:=hb k b h1
  obtain⟨j,f1,f2⟩:=hb k' b h2
  rw[e2]at h1;rw[f2]at h2
  exact M.dis i j b (fun e=>hkk (hi k k' i e1 (e▸f1))) h1 h2
 ·obtain⟨i,_,e2⟩:=hb k b h1
  rw[e2]at h1;exact M.ge i b h1
 obtain⟨i,_,e2⟩:=hb k b h1
 rw[e2]at h1;exact M.ph i b h1
theorem k8.start(hf:∀b,w0.heap.size<=b->φ b)(he:bT3 ψ w0):k8 φ ψ w0 w0 (fun _:ι=>Rs.none):=⟨C6.refl _ _,hf,he,fun _=>Rs.none_holds _ _,fun _ _ _ _ h=>h.elim,fun _ _ h=>h.elim,fun _ _ h=>h.elim⟩
theorem k8.below(M:k8 φ ψ w0 w L)(hp:∀b,b<w0.heap.size->ψ b):Below w0.heap.size w0 w:=M.kept.below hp
end
inductive D where
 |ints (l:List Int)
 |bools (l:List Bool)
 |bytes (l:List UInt8)
 |strs (l:List ByteArray)
 |instrs (l:List d7)
 |events (l:List (Int×Int))
 |rows (l:List (List Int))
 |brows (l:List (List Bool))
 |exprs (l:List c6)
 |stmts (l:List c5)
inductive X where
 |v (x:Value)
 |sl (d:D)
def D.len:D->Nat
 |.ints l=>l.length
 |.bools l=>l.length
 |.bytes l=>l.length
 |.strs l=>l.length
 |.instrs l=>l.length
 |.events l=>l.length
 |.rows l=>l.length
 |.brows l=>l.length
 |.exprs l=>l.length
 |.stmts l=>l.length
def D.sz:D->Nat
 |.instrs _=>5
 |.events _=>2
 |.exprs _=>3
 |.stmts _=>11
 |_=>1
instance : Inhabited c6 := ⟨⟨0, 0, []⟩⟩
instance : Inhabited c5 := ⟨⟨0, 0, cm7, cm7, 0, [], []⟩⟩
instance : Inhabited d7 := ⟨⟨0, 0, 0, 0, 0⟩⟩
def aN2(e:c6):List X:=[.v (.int .i64 e.kind),.v (.int .i64 e.value),.sl (.exprs e.kids)]
def aI6(s:c5):List X:=[.v (.int .i64 s.kind),.v (.int .i64 s.target),.v (.int .i64 s.index.kind),.v (.int .i64 s.index.value),.sl (.exprs s.index.kids),.v (.int .i64 s.value.kind),.v (.int .i64 s.value.value),.sl (.exprs s.value.kids),.v (.int .i64 s.count),.sl (.stmts s.body),.sl (.stmts s.els)]
def bg5(x:d7):List X:=[.v (.int .i64 x.op),.v (.int .i64 x.a),.v (.int .i64 x.b),.v (.int .i64 x.c),.v (.int .i64 x.d)]
def as6(x:Int×Int):List X:=[.v (.int .i64 x.1),.v (.int .i64 x.2)]
def D.elem:D->Nat->List X
 |.ints l,i=>[.v (.int .i64 (l.getD i 0))]
 |.bools l,i=>[.v (.bool (l.getD i false))]
 |.bytes l,i=>[.v (.int .u8 ((l.getD i 0).toNat:Int))]
 |.strs l,i=>[.v (.string (l.getD i ByteArray.empty))]
 |.instrs l,i=>bg5 (l.getD i cm7)
 |.events l,i=>as6 (l.getD i (0,0))
 |.rows l,i=>[.sl (.ints (l.getD i []))]
 |.brows l,i=>[.sl (.bools (l.getD i []))]
 |.exprs l,i=>aN2 (l.getD i cm7)
 |.stmts l,i=>aI6 (l.getD i cm7)
theorem D.elem_len(d:D)(i:Nat):(d.elem i).length=d.sz:=by cases d<;>rfl
theorem m6{α:Type}{l:List α}{i:Nat}{d:α}(h:i<l.length):l.getD i d=l[i]:=by simp[h]
def RD(w:World)(φ:Nat->Prop):D->Value->Prop
 |.ints l,v=>A4 w φ v l.length 1 (ints l)
 |.bools l,v=>A4 w φ v l.length 1 (l.map Value.bool)
 |.bytes l,v=>A4 w φ v l.length 1 (l.map fun b=>Value.int .u8 (b.toNat:Int))
 |.strs l,v=>A4 w φ v l.length 1 (l.map Value.string)
 |.instrs l,v=>A4 w φ v l.length 5 (ints (ap2 l))
 |.events l,v=>A4 w φ v l.length 2 (l.flatMap fun x=>[Value.int .i64 x.1,.int .i64 x.2])
 |.rows l,v=>∃vs:List Value,A4 w φ v l.length 1 vs/\∀i (_:i<l.length),∃u,vs[i]? =some u/\A4 w φ u l[i].length 1 (ints l[i])
 |.brows l,v=>∃vs:List Value,A4 w φ v l.length 1 vs/\∀i (_:i<l.length),∃u,vs[i]? =some u/\A4 w φ u l[i].length 1 (l[i].map Value.bool)
 |.exprs l,v=>J5 w φ v l
 |.stmts l,v=>K1 w φ v l
def XH(w:World)(φ:Nat->Prop):X->Value->Prop
 |.v x,u=>u=x
 |.sl d,u=>RD w φ d u
theorem RD.nice(d:D)(v:Value):ah3 fun w φ=>RD w φ d v:=by
 intro w w' φ φ' ha h
 cases d with
 |rows l=>obtain⟨vs,h1,h2⟩:=h;exact⟨vs,A4.nice _ _ _ _ _ _ _ _ ha h1,fun i hi=>let⟨u,a,b⟩:=h2 i hi;⟨u,a,A4.nice _ _ _ _ _ _ _ _ ha b⟩⟩
 |brows l=>obtain⟨vs,h1,h2⟩:=h;exact⟨vs,A4.nice _ _ _ _ _ _ _ _ ha h1,fun i hi=>let⟨u,a,b⟩:=h2 i hi;⟨u,a,A4.nice _ _ _ _ _ _ _ _ ha b⟩⟩
 |exprs l=>exact J5.nice v l _ _ _ _ ha h
 |stmts l=>exact K1.nice v l _ _ _ _ ha h
 |_=>exact A4.nice _ _ _ _ _ _ _ _ ha h
theorem XH.nice(x:X)(v:Value):ah3 fun w φ=>XH w φ x v:=by
 intro w w' φ φ' ha h
 cases x with
 |v x=>exact h
 |sl d=>exact RD.nice d v _ _ _ _ ha h
def RW(w:World)(φ:Nat->Prop)(d:D)(xs:List Value):Prop:=
 ∀i,i<d.len->∀j x,(d.elem i)[j]? =some x->∃u,xs[i*d.sz+j]? =some u/\XH w φ x u
theorem RW.nice(d:D)(xs:List Value):ah3 fun w φ=>RW w φ d xs:=fun _ _ _ _ ha h i hi j x hx=>let⟨u,a,b⟩:=h i hi j x hx;⟨u,a,XH.nice x u _ _ _ _ ha b⟩
theorem av9{α:Type}(l:List α)(f:α->Value)(dflt:α){i j:Nat}{x:X}(hi:i<l.length)(hx:([X.v (f (l.getD i dflt))]:List X)[j]? =some x):∃y,x=.v y/\(l.map f)[i*1+j]? =some y:=by
 cases j with
 |zero=>simp at hx;subst hx;exact⟨_,rfl,by simp[hi]⟩
 |succ j=>simp at hx
theorem bV7(l:List d7){i j:Nat}{x:X}(hi:i<l.length)(hx:(bg5 (l.getD i cm7))[j]? =some x):∃y,x=.v y/\(ints (ap2 l))[i*5+j]? =some y:=by
 obtain⟨g0,g1,g2,g3,g4⟩:=a73 l i hi
 have e:l.getD i cm7=l[i]:=by simp[hi]
 rw[e]at hx
 unfold bg5 at hx
 match j,hx with
 |0,hx=>simp at hx;subst hx;exact⟨_,rfl,by simp[ints,g0]⟩
 |1,hx=>simp at hx;subst hx;exact⟨_,rfl,by simp[ints,g1]⟩
 |2,hx=>simp at hx;subst hx;exact⟨_,rfl,by simp[ints,g2]⟩
 |3,hx=>simp at hx;subst hx;exact⟨_,rfl,by simp[ints,g3]⟩
 |4,hx=>simp at hx;subst hx;exact⟨_,rfl,by simp[ints,g4]⟩
 |j+5,hx=>simp at hx
theorem bV8(l:List (Int×Int)):∀{i j:Nat} {x:X},i<l.length->(as6 (l.getD i (0,0)))[j]? =some x->∃y,x=.v y/\(l.flatMap fun x=>[Value.int .i64 x.1,.int .i64 x.2])[i*2+j]? =some y:=by
 induction l with
 |nil=>intro i j x hi;simp at hi
 | cons a r ih =>
  intro i j x hi hx
  cases i with
  |zero=>
   unfold as6 at hx
   match j,hx with
   |0,hx=>simp at hx;subst hx;exact⟨_,rfl,ao⟩
   |1,hx=>simp at hx;subst hx;exact⟨_,rfl,ao⟩
   |j+2,hx=>simp at hx
  |succ i=>
   obtain⟨y,h1,h2⟩:=ih (i:=i) (j:=j) (x:=x) (by simpa using hi) (by simpa using hx)
   refine⟨y,h1,?_⟩
   rw[show(i+1)*2+j=i*2+j+2 by omega]
   simpa using h2
theorem A4.cellAt{w:World}{φ:Nat->Prop}{v:Value}{n sz:Nat}{xs:List Value}(h:A4 w φ v n sz xs):∃a cap,v=.slice a n cap/\n<=cap/\cap<=maxLen/\
  ∀i,i<n->∃b off,a=some ⟨b,off,none⟩/\b<w.heap.size/\φ b/\∀j u,xs[i*sz+j]? =some u->w.cell? ⟨b,off+(i*sz+j),none⟩=some u:=by
 obtain⟨_,a,cap,rfl,h1,h2,h3⟩:=h
 refine⟨a,cap,rfl,h1,h2,fun i hi=>?_⟩
 obtain⟨b,off,rfl,hb,hf,hc⟩:=h3 al
 exact⟨b,off,rfl,hb,hf,fun j u hj=>hc _ u hj⟩
theorem bH5{w:World}{φ:Nat->Prop}{e:c6}{c:List Value}(h:U5 w φ e c){j:Nat}{x:X}(hx:(aN2 e)[j]? =some x):∃u,c[j]? =some u/\XH w φ x u:=by
 obtain⟨kv,rfl,hk⟩:=(U5.iff e c).1 h
 unfold aN2 at hx
 match j,hx with
 |0,hx=>simp at hx;subst hx;exact⟨_,rfl,rfl⟩
 |1,hx=>simp at hx;subst hx;exact⟨_,rfl,rfl⟩
 |2,hx=>simp at hx;subst hx;exact⟨_,rfl,hk⟩
 |j+3,hx=>simp at hx
theorem bz6{w:World}{φ:Nat->Prop}{s:c5}{c:List Value}(h:S8 w φ s c){j:Nat}{x:X}(hx:(aI6 s)[j]? =some x):∃u,c[j]? =some u/\XH w φ x u:=by
 obtain⟨iv,vv,bv,ev,rfl,k1,k2,k3,k4⟩:=(S8.iff s c).1 h
 unfold aI6 at hx
 match j,hx with
 |0,hx=>simp at hx;subst hx;exact⟨_,rfl,rfl⟩
 |1,hx=>simp at hx;subst hx;exact⟨_,rfl,rfl⟩
 |2,hx=>simp at hx;subst hx;exact⟨_,rfl,rfl⟩
 |3,hx=>simp at hx;subst hx;exact⟨_,rfl,rfl⟩
 |4,hx=>simp at hx;subst hx;exact⟨_,rfl,k1⟩
 |5,hx=>simp at hx;subst hx;exact⟨_,rfl,rfl⟩
 |6,hx=>simp at hx;subst hx;exact⟨_,rfl,rfl⟩
 |7,hx=>simp at hx;subst hx;exact⟨_,rfl,k2⟩
 |8,hx=>simp at hx;subst hx;exact⟨_,rfl,rfl⟩
 |9,hx=>simp at hx;subst hx;exact⟨_,rfl,k3⟩
 |10,hx=>simp at hx;subst hx;exact⟨_,rfl,k4⟩
 |j+11,hx=>simp at hx
theorem RW.exprs{w:World}{φ:Nat->Prop}{ks:List c6}{xs:List Value}(h:A5 w φ ks xs):RW w φ (.exprs ks) xs:=by
 intro i hi j x hx
 have hj:j<3:=by
  have:=(co0.1 hx).1
  rw[D.elem_len]at this;exact this
 have hi':i<ks.length:=hi
 obtain⟨kv,e0,e1,e2,hk⟩:=h.at i hi'
 have hx':(aN2 ks[i])[j]? =some x:=by
  rw[<-m6 (d:=cm7) hi'];exact hx
 obtain⟨u,hu,hh⟩:=bH5 ((U5.iff ks[i] [.int .i64 ks[i].kind,.int .i64 ks[i].value,kv]).2 ⟨kv,rfl,hk⟩) hx'
 refine⟨u,?_,hh⟩
 rw[<-hu]
 show xs[i*3+j]? =_
 match j,hj with
 |0,_=>simpa using e0
 |1,_=>simpa using e1
 |2,_=>simpa using e2
theorem RW.stmts{w:World}{φ:Nat->Prop}{ks:List c5}{xs:List Value}(h:z8 w φ ks xs):RW w φ (.stmts ks) xs:=by
 intro i hi j x hx
 have hj:j<11:=by
  have:=(co0.1 hx).1
  rw[D.elem_len]at this;exact this
 have hi':i<ks.length:=hi
 obtain⟨cs,hl,hs,hc⟩:=h.at i hi'
 have hx':(aI6 ks[i])[j]? =some x:=by
  rw[<-m6 (d:=cm7) hi'];exact hx
 obtain⟨u,hu,hh⟩:=bz6 hs hx'
 exact⟨u,(hc j hj).trans hu,hh⟩
theorem RD.split{w:World}{φ:Nat->Prop}{d:D}{v:Value}(h:RD w φ d v):∃xs,A4 w φ v d.len d.sz xs/\RW w φ d xs:=by
 cases d with
 |ints l=>exact⟨_,h,fun i hi j x hx=>let⟨y,e,h1⟩:=av9 l (Value.int .i64) 0 hi hx;⟨y,h1,by subst e;rfl⟩⟩
 |bools l=>exact⟨_,h,fun i hi j x hx=>let⟨y,e,h1⟩:=av9 l Value.bool false hi hx;⟨y,h1,by subst e;rfl⟩⟩
 |bytes l=>exact⟨_,h,fun i hi j x hx=>let⟨y,e,h1⟩:=av9 l (fun b=>Value.int .u8 (b.toNat:Int)) 0 hi hx;⟨y,h1,by subst e;rfl⟩⟩
 |strs l=>exact⟨_,h,fun i hi j x hx=>let⟨y,e,h1⟩:=av9 l Value.string ByteArray.empty hi hx;⟨y,h1,by subst e;rfl⟩⟩
 |instrs l=>exact⟨_,h,fun i hi j x hx=>let⟨y,e,h1⟩:=bV7 l hi hx;⟨y,h1,by subst e;rfl⟩⟩
 |events l=>exact⟨_,h,fun i hi j x hx=>let⟨y,e,h1⟩:=bV8 l hi hx;⟨y,h1,by subst e;rfl⟩⟩
 | rows l =>
  obtain⟨vs,h1,h2⟩:=h
  refine⟨vs,h1,fun i hi j x hx=>?_⟩
  cases j with
  |succ j=>simp[D.elem]at hx
  |zero=>
   obtain⟨u,e,h3⟩:=h2 i hi
   simp only[D.elem,cn1,Option.some.injEq]at hx
   subst hx
   have hi':i<l.length:=hi
   exact⟨u,by simpa[D.sz]using e,by show A4 _ _ _ _ _ _;rw[m6 hi'];exact h3⟩
 | brows l =>
  obtain⟨vs,h1,h2⟩:=h
  refine⟨vs,h1,fun i hi j x hx=>?_⟩
  cases j with
  |succ j=>simp[D.elem]at hx
  |zero=>
   obtain⟨u,e,h3⟩:=h2 i hi
   simp only[D.elem,cn1,Option.some.injEq]at hx
   subst hx
   have hi':i<l.length:=hi
   exact⟨u,by simpa[D.sz]using e,by show A4 _ _ _ _ _ _;rw[m6 hi'];exact h3⟩
 |exprs l=>obtain⟨xs,h1,h2⟩:=h;exact⟨xs,h1,RW.exprs h2⟩
 |stmts l=>obtain⟨xs,h1,h2⟩:=h;exact⟨xs,h1,RW.stmts h2⟩
theorem RD.open{w:World}{φ:Nat->Prop}{d:D}{v:Value}(h:RD w φ d v):∃a cap,v=.slice a d.len cap/\d.len<=cap/\cap<=maxLen/\
  ∀i,i<d.len->∃b off,a=some ⟨b,off,none⟩/\b<w.heap.size/\φ b/\∀j x,(d.elem i)[j]? =some x->∃u,w.cell? ⟨b,off+(i*d.sz+j),none⟩=some u/\XH w φ x u:=by
 obtain⟨xs,h1,h2⟩:=h.split
 obtain⟨a,cap,rfl,k1,k2,k3⟩:=h1.cellAt
 refine⟨a,cap,rfl,k1,k2,fun i hi=>?_⟩
 obtain⟨b,off,e,hb,hf,hc⟩:=k3 i hi
 exact⟨b,off,e,hb,hf,fun j x hx=>let⟨u,hu,hh⟩:=h2 i hi j x hx;⟨u,hc j u hu,hh⟩⟩
theorem bZ8{xs ys:List Value}(hl:xs.length=ys.length)(h:∀i,i<ys.length->xs[i]? =ys[i]?):xs=ys:=by
 apply List.ext_getElem?
 intro i
 rcases cp1 i ys.length with hi|hi
 ·exact h i hi
 rw[cp0 al,cp0 hi]
theorem RW.drop{w:World}{φ:Nat->Prop}{a:c6}{r:List c6}{xs:List Value}(h:RW w φ (.exprs (a::r)) xs):RW w φ (.exprs r) (xs.drop 3):=by
 intro i hi j x hx
 have hi':i<r.length:=hi
 obtain⟨u,h1,h2⟩:=h (i+1) (by show i+1<(a::r).length;simp;exact hi') j x (by simpa[D.elem]using hx)
 refine⟨u,?_,h2⟩
 rw[List.getElem?_drop, <-h1]
 congr 1
 simp only[D.sz];omega
theorem RW.dropS{w:World}{φ:Nat->Prop}{a:c5}{r:List c5}{xs:List Value}(h:RW w φ (.stmts (a::r)) xs):RW w φ (.stmts r) (xs.drop 11):=by
 intro i hi j x hx
 have hi':i<r.length:=hi
 obtain⟨u,h1,h2⟩:=h (i+1) (by show i+1<(a::r).length;simp;exact hi') j x (by simpa[D.elem]using hx)
 refine⟨u,?_,h2⟩
 rw[List.getElem?_drop, <-h1]
 congr 1
 simp only[D.sz];omega
theorem b67{xs:List Value}{u0 u1 u2:Value}(h0:xs[0]? =some u0)(h1:xs[1]? =some u1)(h2:xs[2]? =some u2):xs=[u0,u1,u2]++xs.drop 3:=by
 match xs,h0,h1,h2 with
 |a::b::c::r,h0,h1,h2=>simp at h0 h1 h2;simp[h0,h1,h2]
theorem bX2{xs:List Value}{u0 u1 u2 u3 u4 u5 u6 u7 u8 u9 u10:Value}(h0:xs[0]? =some u0)(h1:xs[1]? =some u1)(h2:xs[2]? =some u2)(h3:xs[3]? =some u3)(h4:xs[4]? =some u4)(h5:xs[5]? =some u5)(h6:xs[6]? =some u6)(h7:xs[7]? =some u7)(h8:xs[8]? =some u8)(h9:xs[9]? =some u9)(h10:xs[10]? =some u10):xs=[u0,u1,u2,u3,u4,u5,u6,u7,u8,u9,u10]++xs.drop 11:=by
 match xs,h0,h1,h2,h3,h4,h5,h6,h7,h8,h9,h10 with
 |a0::a1::a2::a3::a4::a5::a6::a7::a8::a9::a10::r,h0,h1,h2,h3,h4,h5,h6,h7,h8,h9,h10=>
  simp at h0 h1 h2 h3 h4 h5 h6 h7 h8 h9 h10
  simp[h0,h1,h2,h3,h4,h5,h6,h7,h8,h9,h10]
theorem A5.of{w:World}{φ:Nat->Prop}:∀{ks:List c6} {xs:List Value},xs.length=ks.length*3->RW w φ (.exprs ks) xs->A5 w φ ks xs
 |[],xs,hl,_=>by simp at hl;exact hl
 |a::r,xs,hl,h=>by
  have hp:0<(D.exprs (a::r)).len:=by show 0<(a::r).length;simp
  obtain⟨u0,g0,rfl⟩:=h 0 hp 0 (.v (.int .i64 a.kind)) rfl
  obtain⟨u1,g1,rfl⟩:=h 0 hp 1 (.v (.int .i64 a.value)) rfl
  obtain⟨u2,g2,hk⟩:=h 0 hp 2 (.sl (.exprs a.kids)) rfl
  refine⟨_,xs.drop 3,b67 (by simpa using g0) (by simpa using g1) (by simpa using g2),(U5.iff a _).2 ⟨u2,rfl,hk⟩,A5.of (by simp at hl ⊢;omega) h.drop⟩
theorem z8.of{w:World}{φ:Nat->Prop}:∀{ks:List c5} {xs:List Value},xs.length=ks.length*11->RW w φ (.stmts ks) xs->z8 w φ ks xs
 |[],xs,hl,_=>by simp at hl;exact hl
 |a::r,xs,hl,h=>by
  have hp:0<(D.stmts (a::r)).len:=by show 0<(a::r).length;simp
  obtain⟨u0,g0,rfl⟩:=h 0 hp 0 (.v (.int .i64 a.kind)) rfl
  obtain⟨u1,g1,rfl⟩:=h 0 hp 1 (.v (.int .i64 a.target)) rfl
  obtain⟨u2,g2,rfl⟩:=h 0 hp 2 (.v (.int .i64 a.index.kind)) rfl
  obtain⟨u3,g3,rfl⟩:=h 0 hp 3 (.v (.int .i64 a.index.value)) rfl
  obtain⟨u4,g4,k4⟩:=h 0 hp 4 (.sl (.exprs a.index.kids)) rfl
  obtain⟨u5,g5,rfl⟩:=h 0 hp 5 (.v (.int .i64 a.value.kind)) rfl
  obtain⟨u6,g6,rfl⟩:=h 0 hp 6 (.v (.int .i64 a.value.value)) rfl
  obtain⟨u7,g7,k7⟩:=h 0 hp 7 (.sl (.exprs a.value.kids)) rfl
  obtain⟨u8,g8,rfl⟩:=h 0 hp 8 (.v (.int .i64 a.count)) rfl
  obtain⟨u9,g9,k9⟩:=h 0 hp 9 (.sl (.stmts a.body)) rfl
  obtain⟨u10,g10,k10⟩:=h 0 hp 10 (.sl (.stmts a.els)) rfl
  refine⟨_,xs.drop 11,bX2 (by simpa using g0) (by simpa using g1) (by simpa using g2) (by simpa using g3) (by simpa using g4) (by simpa using g5) (by simpa using g6) (by simpa using g7) (by simpa using g8) (by simpa using g9) (by simpa using g10),(S8.iff a _).2 ⟨u4,u7,u9,u10,rfl,k4,k7,k9,k10⟩,z8.of (by simp at hl ⊢;omega) h.dropS⟩
theorem ao0{w:World}{φ:Nat->Prop}{d:D}{xs ys:List Value}(hl:xs.length=d.len*d.sz)(hy:ys.length=d.len*d.sz)(h:RW w φ d xs)
  (hf:∀i j x,i<d.len->(d.elem i)[j]? =some x->∃y,x=.v y/\ys[i*d.sz+j]? =some y):xs=ys:=by
 refine bZ8 (hl.trans hy.symm) fun p hp=>?_
 have hs:0<d.sz:=by cases d<;>simp[D.sz]
 have hi:p/d.sz<d.len:=by rw[hy]at hp;exact Nat.div_lt_of_lt_mul (by rw[Nat.mul_comm];exact hp)
 have hj:p%d.sz<(d.elem (p/d.sz)).length:=by rw[D.elem_len];exact Nat.mod_lt _ hs
 obtain⟨y,h1,h2⟩:=hf _ _ _ hi (cn0 hj)
 obtain⟨u,h3,h4⟩:=h _ hi _ _ (cn0 hj)
 rw[h1]at h4
 have e:p/d.sz*d.sz+p%d.sz=p:=by rw[Nat.mul_comm];exact Nat.div_add_mod p d.sz
 rw[e]at h2 h3
 rw[h3,h2]
 exact congrArg some h4
theorem bh6(l:List (Int×Int)):(l.flatMap fun x=>[Value.int .i64 x.1,.int .i64 x.2]).length=l.length*2:=by
 induction l with
 |nil=>rfl
 |cons a r ih=>rw[List.flatMap_cons,cn3,ih];simp;omega
theorem RD.make{w:World}{φ:Nat->Prop}{d:D}{v:Value}{xs:List Value}(hr:A4 w φ v d.len d.sz xs)(h:RW w φ d xs):RD w φ d v:=by
 have hl:=hr.1
 cases d with
 |ints l=>rw[ao0 hl (by simp[D.len,D.sz,ints]) h fun i j x hi hx=>av9 l (Value.int .i64) 0 hi hx]at hr;exact hr
 |bools l=>rw[ao0 hl (by simp[D.len,D.sz]) h fun i j x hi hx=>av9 l Value.bool false hi hx]at hr;exact hr
 |bytes l=>rw[ao0 hl (by simp[D.len,D.sz]) h fun i j x hi hx=>av9 l (fun b=>Value.int .u8 (b.toNat:Int)) 0 hi hx]at hr;exact hr
 |strs l=>rw[ao0 hl (by simp[D.len,D.sz]) h fun i j x hi hx=>av9 l Value.string ByteArray.empty hi hx]at hr;exact hr
 |instrs l=>rw[ao0 hl (by simp[D.len,D.sz,ints,bG2]) h fun i j x hi hx=>bV7 l hi hx]at hr;exact hr
 |events l=>rw[ao0 hl (bh6 l) h fun i j x hi hx=>bV8 l hi hx]at hr;exact hr
 |rows l=>
  refine⟨xs,hr,fun i hi=>?_⟩
  obtain⟨u,h1,h2⟩:=h i hi 0 _ rfl
  exact⟨u,by simpa[D.sz]using h1,by have h3:A4 _ _ _ _ _ _:=h2;rw[m6 hi]at h3;exact h3⟩
 |brows l=>
  refine⟨xs,hr,fun i hi=>?_⟩
  obtain⟨u,h1,h2⟩:=h i hi 0 _ rfl
  exact⟨u,by simpa[D.sz]using h1,by have h3:A4 _ _ _ _ _ _:=h2;rw[m6 hi]at h3;exact h3⟩
 |exprs l=>exact⟨xs,hr,A5.of hl h⟩
 |stmts l=>exact⟨xs,hr,z8.of hl h⟩
def natEq(a b:Nat):Bool:=a==b
def K6(w:World):List (List Int)->(Nat->Prop)->List Value->Prop
 |[],_,xs=>xs=[]
 |r::rs,S,xs=>∃(v:Value) (ys:List Value) (S2:Nat->Prop),xs=v::ys/\w.ownsRow 0 3 1 v r.length (ints r)/\(∀g,v.ownBlock=some g->S g/\¬S2 g)/\(∀b,S2 b->S b)/\K6 w rs S2 ys
def S7(w:World):D->(Nat->Prop)->List Value->Prop
 |.exprs l,S,xs=>s4 w l S xs
 |.stmts l,S,xs=>p8 w l S xs
 |.rows l,S,xs=>K6 w l S xs
 |_,_,_=>False
def ap7:D->Option TypeId
 |.exprs _=>some 96
 |.stmts _=>some 98
 |.rows _=>some 23
 |_=>none
def F2(w:World)(S:Nat->Prop)(d:D)(v:Value):Prop:=
 ∃(e:TypeId) (xs:List Value) (S':Nat->Prop),ap7 d=some e/\w.ownsRow 0 e d.sz v d.len xs/\(∀g,v.ownBlock=some g->S g/\¬S' g)/\(∀b,S' b->S b)/\S7 w d S' xs
section
variable{w w':World}{S S' T φ:Nat->Prop}
theorem K6.same:∀{l:List (List Int)} {S:Nat->Prop} {xs:List Value},K6 w l S xs->(∀b,S b->b<w.heap.size->w'.heap[b]? =w.heap[b]?)->K6 w' l S xs
 |[],_,_,h,_=>h
 |_::_,_,_,⟨v,ys,S2,h1,h2,h3,h4,h5⟩,hs=>⟨v,ys,S2,h1,A8 h2 fun g hg=>hs g (h3 g hg).1 (World.ownsRow.lt h2 g hg).2,h3,h4,K6.same h5 fun b hb=>hs b (h4 b hb)⟩
theorem K6.mono:∀{l:List (List Int)} {S S':Nat->Prop} {xs:List Value},K6 w l S xs->(∀b,S b->S' b)->K6 w l S' xs
 |[],_,_,_,h,_=>h
 |_::_,_,_,_,⟨v,ys,S2,h1,h2,h3,h4,h5⟩,hs=>⟨v,ys,S2,h1,h2,fun g hg=>⟨hs g (h3 g hg).1,(h3 g hg).2⟩,fun b hb=>hs b (h4 b hb),h5⟩
theorem K6.app:∀{a b:List (List Int)} {S T S':Nat->Prop} {xs ys:List Value},K6 w a S xs->K6 w b T ys->(∀x,S x->S' x/\¬T x)->(∀x,T x->S' x)->K6 w (a++b) S' (xs++ys)
 |[],b,_,_,_,xs,ys,h,k,_,f=>by rw[show xs=[]from h];exact k.mono f
 | _ :: _, b, _, T, _, _, ys, ⟨v, zs, S2, h1, h2, h3, h4, h5⟩, k, d, f =>
  ⟨v,zs++ys,fun x=>S2 x\/T x,by rw[h1];rfl,h2,fun g hg=>⟨(d g (h3 g hg).1).1,fun h=>h.elim (h3 g hg).2 (d g (h3 g hg).1).2⟩,fun x hx=>hx.elim (fun h=>(d x (h4 x h)).1) (f x),
   K6.app h5 k (fun x hx=>⟨.inl hx,(d x (h4 x hx)).2⟩) fun x hx=>.inr hx⟩
theorem s4.app:∀{a b:List c6} {S T S':Nat->Prop} {xs ys:List Value},s4 w a S xs->s4 w b T ys->(∀x,S x->S' x/\¬T x)->(∀x,T x->S' x)->s4 w (a++b) S' (xs++ys)
 |[],b,_,_,_,xs,ys,h,k,_,f=>by rw[show xs=[]from h];exact k.mono f
 | _ :: _, b, _, T, _, _, ys, ⟨c, zs, S1, S2, h1, h2, h3, h4, h5⟩, k, d, f =>
  ⟨c,zs++ys,S1,fun x=>S2 x\/T x,by rw[h1,cr6],fun x hx=>⟨(d x (h2 x hx).1).1,fun h=>h.elim (h2 x hx).2 (d x (h2 x hx).1).2⟩,fun x hx=>hx.elim (fun h=>(d x (h3 x h)).1) (f x),h4,
   s4.app h5 k (fun x hx=>⟨.inl hx,(d x (h3 x hx)).2⟩) fun x hx=>.inr hx⟩
theorem p8.app:∀{a b:List c5} {S T S':Nat->Prop} {xs ys:List Value},p8 w a S xs->p8 w b T ys->(∀x,S x->S' x/\¬T x)->(∀x,T x->S' x)->p8 w (a++b) S' (xs++ys)
 |[],b,_,_,_,xs,ys,h,k,_,f=>by rw[show xs=[]from h];exact k.mono f
 | _ :: _, b, _, T, _, _, ys, ⟨c, zs, S1, S2, h1, h2, h3, h4, h5⟩, k, d, f =>
  ⟨c,zs++ys,S1,fun x=>S2 x\/T x,by rw[h1,cr6],fun x hx=>⟨(d x (h2 x hx).1).1,fun h=>h.elim (h2 x hx).2 (d x (h2 x hx).1).2⟩,fun x hx=>hx.elim (fun h=>(d x (h3 x h)).1) (f x),h4,
   p8.app h5 k (fun x hx=>⟨.inl hx,(d x (h3 x hx)).2⟩) fun x hx=>.inr hx⟩
theorem S7.same{d:D}{xs:List Value}(h:S7 w d S xs)(hs:∀b,S b->b<w.heap.size->w'.heap[b]? =w.heap[b]?):S7 w' d S xs:=by
 cases d<;>simp only[S7]at h ⊢
 ·exact h.same hs
 ·exact s4.same _ _ _ h hs
 exact p8.same _ _ _ h hs
theorem S7.mono{d:D}{xs:List Value}(h:S7 w d S xs)(hs:∀b,S b->S' b):S7 w d S' xs:=by
 cases d<;>simp only[S7]at h ⊢
 ·exact h.mono hs
 ·exact s4.mono h hs
 exact p8.mono h hs
theorem S7.cut{d:D}{xs:List Value}(h:S7 w d S xs):S7 w d (fun b=>S b/\b<w.heap.size) xs:=by
 cases d<;>simp only[S7]at h ⊢
 ·rename_i l
  have:∀{l:List (List Int)} {S:Nat->Prop} {xs:List Value},K6 w l S xs->K6 w l (fun b=>S b/\b<w.heap.size) xs:=by
   intro l
   induction l with
   |nil=>intro S xs h;exact h
   |cons r rs ih=>
    rintro S xs ⟨v,ys,S2,h1,h2,h3,h4,h5⟩
    exact⟨v,ys,fun b=>S2 b/\b<w.heap.size,h1,h2,fun g hg=>⟨⟨(h3 g hg).1,(World.ownsRow.lt h2 g hg).2⟩,fun h=>(h3 g hg).2 h.1⟩,fun b hb=>⟨h4 b hb.1,hb.2⟩,ih h5⟩
  exact this h
 ·exact cutEs _ _ _ h
 exact cutSs _ _ _ h
where
 cutE:∀(e:c6) (S:Nat->Prop) (cs:List Value),F3 w e S cs->F3 w e (fun b=>S b/\b<w.heap.size) cs
  |⟨_,_,ks⟩,S,_,⟨v,xs,S',h1,h2,h3,h4,h5⟩=>⟨v,xs,fun b=>S' b/\b<w.heap.size,h1,h2,fun g hg=>⟨⟨(h3 g hg).1,(World.ownsRow.lt h2 g hg).2⟩,fun h=>(h3 g hg).2 h.1⟩,fun b hb=>⟨h4 b hb.1,hb.2⟩,cutEs ks S' xs h5⟩
 cutEs:∀(ks:List c6) (S:Nat->Prop) (xs:List Value),s4 w ks S xs->s4 w ks (fun b=>S b/\b<w.heap.size) xs
  |[],_,_,h=>h
  |e::r,S,_,⟨c,ys,S1,S2,h1,h2,h3,h4,h5⟩=>⟨c,ys,fun b=>S1 b/\b<w.heap.size,fun b=>S2 b/\b<w.heap.size,h1,fun b hb=>⟨⟨(h2 b hb.1).1,hb.2⟩,fun h=>(h2 b hb.1).2 h.1⟩,fun b hb=>⟨h3 b hb.1,hb.2⟩,cutE e S1 c h4,cutEs r S2 ys h5⟩
 cutS:∀(s:c5) (S:Nat->Prop) (cs:List Value),H2 w s S cs->H2 w s (fun b=>S b/\b<w.heap.size) cs
  | ⟨_, _, i, v, _, b, e⟩, S, _, ⟨iv, vv, bv, ev, xb, xe, Si, Sv, Sb, Se, Sb', Se', h1, ⟨d1, d2, d3, d4⟩, ⟨xi, Ti, i1, i2, i3, i4⟩, ⟨xv, Tv, v1, v2, v3, v4⟩, ⟨b1, b2, b3, b4⟩, ⟨e1, e2, e3, e4⟩⟩ =>
   ⟨iv,vv,bv,ev,xb,xe,fun b=>Si b/\b<w.heap.size,fun b=>Sv b/\b<w.heap.size,fun b=>Sb b/\b<w.heap.size,fun b=>Se b/\b<w.heap.size,fun b=>Sb' b/\b<w.heap.size,fun b=>Se' b/\b<w.heap.size,h1,
    ⟨fun b hb=>⟨⟨(d1 b hb.1).1,hb.2⟩,fun h=>(d1 b hb.1).2.1 h.1,fun h=>(d1 b hb.1).2.2.1 h.1,fun h=>(d1 b hb.1).2.2.2 h.1⟩,fun b hb=>⟨⟨(d2 b hb.1).1,hb.2⟩,fun h=>(d2 b hb.1).2.1 h.1,fun h=>(d2 b hb.1).2.2 h.1⟩,fun b hb=>⟨⟨(d3 b hb.1).1,hb.2⟩,fun h=>(d3 b hb.1).2 h.1⟩,fun b hb=>⟨d4 b hb.1,hb.2⟩⟩,
    ⟨xi,fun b=>Ti b/\b<w.heap.size,i1,fun g hg=>⟨⟨(i2 g hg).1,(World.ownsRow.lt i1 g hg).2⟩,fun h=>(i2 g hg).2 h.1⟩,fun b hb=>⟨i3 b hb.1,hb.2⟩,cutEs _ _ _ i4⟩,
    ⟨xv,fun b=>Tv b/\b<w.heap.size,v1,fun g hg=>⟨⟨(v2 g hg).1,(World.ownsRow.lt v1 g hg).2⟩,fun h=>(v2 g hg).2 h.1⟩,fun b hb=>⟨v3 b hb.1,hb.2⟩,cutEs _ _ _ v4⟩,
    ⟨b1,fun g hg=>⟨⟨(b2 g hg).1,(World.ownsRow.lt b1 g hg).2⟩,fun h=>(b2 g hg).2 h.1⟩,fun b hb=>⟨b3 b hb.1,hb.2⟩,cutSs _ _ _ b4⟩,
    ⟨e1,fun g hg=>⟨⟨(e2 g hg).1,(World.ownsRow.lt e1 g hg).2⟩,fun h=>(e2 g hg).2 h.1⟩,fun b hb=>⟨e3 b hb.1,hb.2⟩,cutSs _ _ _ e4⟩⟩
 cutSs:∀(ks:List c5) (S:Nat->Prop) (xs:List Value),p8 w ks S xs->p8 w ks (fun b=>S b/\b<w.heap.size) xs
  |[],_,_,h=>h
  |e::r,S,_,⟨c,ys,S1,S2,h1,h2,h3,h4,h5⟩=>⟨c,ys,fun b=>S1 b/\b<w.heap.size,fun b=>S2 b/\b<w.heap.size,h1,fun b hb=>⟨⟨(h2 b hb.1).1,hb.2⟩,fun h=>(h2 b hb.1).2 h.1⟩,fun b hb=>⟨h3 b hb.1,hb.2⟩,cutS e S1 c h4,cutSs r S2 ys h5⟩
theorem F2.same{d:D}{v:Value}(h:F2 w S d v)(hs:∀b,S b->b<w.heap.size->w'.heap[b]? =w.heap[b]?):F2 w' S d v:=by
 obtain⟨e,xs,S',h0,h1,h2,h3,h4⟩:=h
 exact⟨e,xs,S',h0,A8 h1 fun g hg=>hs g (h2 g hg).1 (World.ownsRow.lt h1 g hg).2,h2,h3,h4.same fun b hb=>hs b (h3 b hb)⟩
theorem F2.mono{d:D}{v:Value}(h:F2 w S d v)(hs:∀b,S b->S' b):F2 w S' d v:=by
 obtain⟨e,xs,T,h0,h1,h2,h3,h4⟩:=h
 exact⟨e,xs,T,h0,h1,fun g hg=>⟨hs g (h2 g hg).1,(h2 g hg).2⟩,fun b hb=>hs b (h3 b hb),h4⟩
theorem F2.cut{d:D}{v:Value}(h:F2 w S d v):F2 w (fun b=>S b/\b<w.heap.size) d v:=by
 obtain⟨e,xs,T,h0,h1,h2,h3,h4⟩:=h
 exact⟨e,xs,fun b=>T b/\b<w.heap.size,h0,h1,fun g hg=>⟨⟨(h2 g hg).1,(World.ownsRow.lt h1 g hg).2⟩,fun h=>(h2 g hg).2 h.1⟩,fun b hb=>⟨h3 b hb.1,hb.2⟩,h4.cut⟩
theorem F2.kids{l:List c6}{v:Value}:F2 w S (.exprs l) v↔J6 w v l S:=
 ⟨fun⟨_,xs,S',h0,h1,h2,h3,h4⟩=>⟨xs,S',by cases h0;exact h1,h2,h3,h4⟩,fun⟨xs,S',h1,h2,h3,h4⟩=>⟨_,xs,S',rfl,h1,h2,h3,h4⟩⟩
theorem F2.block{l:List c5}{v:Value}:F2 w S (.stmts l) v↔M0 w v l S:=
 ⟨fun⟨_,xs,S',h0,h1,h2,h3,h4⟩=>⟨xs,S',by cases h0;exact h1,h2,h3,h4⟩,fun⟨xs,S',h1,h2,h3,h4⟩=>⟨_,xs,S',rfl,h1,h2,h3,h4⟩⟩
theorem K6.at:∀{l:List (List Int)} {S:Nat->Prop} {xs:List Value},K6 w l S xs->xs.length=l.length/\∀i (_:i<l.length),∃u,xs[i]? =some u/\w.ownsRow 0 3 1 u l[i].length (ints l[i])/\∀g,u.ownBlock=some g->S g
 |[],_,xs,h=>⟨by rw[show xs=[]from h];rfl,fun i hi=>by simp at hi⟩
 | r :: rs, S, _, ⟨v, ys, S2, h1, h2, h3, h4, h5⟩ => by
  subst h1
  obtain⟨k1,k2⟩:=K6.at h5
  refine⟨by simp[k1],fun i hi=>?_⟩
  cases i with
  |zero=>exact⟨v,rfl,h2,fun g hg=>(h3 g hg).1⟩
  |succ i=>
   obtain⟨u,a,b,c⟩:=k2 i (by simpa using hi)
   exact⟨u,by simpa using a,b,fun g hg=>h4 g (c g hg)⟩
def bb7(w:World)(l:List (List Int))(S:Nat->Prop)(xs:List Value)(h:Nat):Prop:=
 xs.length=l.length/\(∀i (_:i<l.length),∃u,xs[i]? =some u/\(i≠h->w.ownsRow 0 3 1 u l[i].length (ints l[i]))/\∀g,u.ownBlock=some g->S g)/\
 ∀(i j:Nat) (u v:Value),i<j->xs[i]? =some u->xs[j]? =some v->∀g,u.ownBlock=some g->v.ownBlock≠some g
theorem K6.idx:∀{l:List (List Int)} {S:Nat->Prop} {xs:List Value},K6 w l S xs->∀h,bb7 w l S xs h
  |[],_,xs,h,_=>⟨by rw[show xs=[]from h];rfl,fun i hi=>by simp at hi,fun i j u v _ hu=>by rw[show xs=[]from h]at hu;simp at hu⟩
  | r :: rs, S, _, ⟨v, ys, S2, h1, h2, h3, h4, h5⟩, h => by
    subst h1
    obtain⟨k1,k2,k3⟩:=K6.idx h5 rs.length
    refine⟨by simp[k1],fun i hi=>?_,fun i j u u' hij hu hu' g hg=>?_⟩
    · cases i with
      |zero=>exact⟨v,rfl,fun _=>h2,fun g hg=>(h3 g hg).1⟩
      | succ i =>
        have hi':i<rs.length:=by simpa using hi
        obtain⟨u,a,b,c⟩:=k2 i hi'
        exact⟨u,by simpa using a,fun _=>b al,fun g hg=>h4 g (c g hg)⟩
    cases j with
    |zero=>omega
    | succ j =>
      have hj:j<rs.length:=by have:=(co0.1 hu').1;simp at this;omega
      cases i with
      | zero =>
        simp at hu;subst hu
        obtain⟨u2,a,_,c⟩:=k2 j hj
        have e : u2 = u' := by have : ys[j]? = some u' := by simpa using hu'
                               rw[a]at this;exact Option.some.inj this
        subst e
        exact fun he=>(h3 g hg).2 (c g he)
      |succ i=>exact k3 i j u u' al (by simpa using hu) (by simpa using hu') g hg
theorem bb7.tree:∀{l:List (List Int)} {S:Nat->Prop} {xs:List Value},bb7 w l S xs l.length->K6 w l S xs
 |[],_,xs,⟨h,_⟩=>List.length_eq_zero_iff.1 h
 |r::rs,S,[],⟨h,_⟩=>by simp at h
 |r::rs,S,v::ys,⟨h1,h2,h3⟩=>by
  obtain⟨u,e,ho,hs⟩:=h2 0 ao
  simp at e;subst e
  refine⟨v,ys,fun b=>S b/\v.ownBlock≠some b,rfl,by simpa using ho ao,fun g hg=>⟨hs g hg,fun hh=>hh.2 hg⟩,fun b hb=>hb.1,bb7.tree ⟨by simpa using h1,fun i hi=>?_,fun i j u v' hij hu hv g hg=>h3 (i+1) (j+1) u v' al (by simpa using hu) (by simpa using hv) g hg⟩⟩
  obtain⟨u,e,ho,hs'⟩:=h2 (i+1) (by simpa using hi)
  exact⟨u,by simpa using e,fun hn=>by simpa using ho (by simpa using hn),fun g hg=>⟨hs' g hg,fun hv=>h3 0 (i+1) v u al rfl e g hv hg⟩⟩
def aU8(w:World)(S:Nat->Prop)(i:Nat)(l:List (List Int))(u v:Value):Prop:=
 ∃(xs:List Value) (S':Nat->Prop),w.ownsRow 0 23 1 v l.length xs/\(∀g,v.ownBlock=some g->S g/\¬S' g)/\(∀b,S' b->S b)/\xs[i]? =some u/\i<l.length/\bb7 w l S' xs i
theorem aU8.same{i:Nat}{l:List (List Int)}{u v:Value}(h:aU8 w S i l u v)(hs:∀b,(S b/\u.ownBlock≠some b)->b<w.heap.size->w'.heap[b]? =w.heap[b]?):aU8 w' S i l u v:=by
 obtain⟨xs,S',h1,h2,h3,h4,h5,k1,k2,k3⟩:=h
 have hu:∀g,u.ownBlock=some g->S' g:=by
  obtain⟨u',a,_,c⟩:=k2 i h5
  rw[h4]at a;cases a;exact c
 refine⟨xs,S',A8 h1 fun g hg=>hs g ⟨(h2 g hg).1,fun he=>(h2 g hg).2 (hu g he)⟩ (World.ownsRow.lt h1 g hg).2,h2,h3,h4,h5,k1,fun j hj=>?_,k3⟩
 obtain⟨y,a,b,c⟩:=k2 j hj
 refine⟨y,a,fun hn=>A8 (b hn) fun g hg=>hs g ⟨h3 g (c g hg),fun he=>?_⟩ (World.ownsRow.lt (b hn) g hg).2,c⟩
 rcases Nat.lt_or_gt_of_ne hn with h|h
 ·exact k3 j i y u h a h4 g hg he
 exact k3 i j u y h h4 a g he hg
theorem F2.takeRow{i:Nat}{l:List (List Int)}{v:Value}(h:F2 w S (.rows l) v)(hi:i<l.length):∃(u:Value) (a:Addr) (cap:Nat),aU8 w S i l u v/\w.ownsRow 0 3 1 u (l.getD i []).length (ints (l.getD i []))/\(∀g,u.ownBlock=some g->S g)/\v=.slice (some a) l.length cap/\w.cell? ⟨a.block,a.off+i,none⟩=some u/\a.spot=none:=by
 obtain⟨e,xs,S',h0,h1,h2,h3,h4⟩:=h
 cases h0
 have k:=K6.idx h4
 obtain⟨u,a,b,c⟩:=(k l.length).2.1 i hi
 obtain⟨_,aa,cap,hv,_,_,k3⟩:=R4 h1
 obtain⟨b',off,e,_,hc⟩:=k3 (by simp only[D.len];omega)
 subst e
 refine⟨u,_,cap,⟨xs,S',h1,h2,h3,a,hi,k i⟩,?_,fun g hg=>h3 g (c g hg),hv,hc i u a,rfl⟩
 have:=b al
 simpa[cn2,hi]using this
theorem F2.read{d:D}{v:Value}(h:F2 w S d v)(hs:∀b,S b->φ b):RD w φ d v:=by
 cases d with
 |exprs l=>exact J6.read (F2.kids.1 h) hs
 |stmts l=>exact M0.read (F2.block.1 h) hs
 |rows l=>
  obtain⟨e,xs,S',h0,h1,h2,h3,h4⟩:=h
  obtain⟨k1,k2⟩:=K6.at h4
  exact⟨xs,A9 h1 fun g hg=>hs g (h2 g hg).1,fun i hi=>let⟨u,a,b,c⟩:=k2 i hi;⟨u,a,A9 b fun g hg=>hs g (h3 g (c g hg))⟩⟩
 |ints l=>obtain⟨_,_,_,h0,_⟩:=h;cases h0
 |bools l=>obtain⟨_,_,_,h0,_⟩:=h;cases h0
 |bytes l=>obtain⟨_,_,_,h0,_⟩:=h;cases h0
 |strs l=>obtain⟨_,_,_,h0,_⟩:=h;cases h0
 |instrs l=>obtain⟨_,_,_,h0,_⟩:=h;cases h0
 |events l=>obtain⟨_,_,_,h0,_⟩:=h;cases h0
 |brows l=>obtain⟨_,_,_,h0,_⟩:=h;cases h0
def E9:Value->Value
 |.tuple a=>a.getD 0 undef
 |v=>v
def E3:Value->Nat->Prop
 |.tuple a=>fun b=>Value.int .u64 (b:Int)∈a.toList.drop 1
 |_=>fun _=>False
theorem aN3(v:Value)(S:Nat->Prop)(n:Nat)(h:∀b,S b->b<n):∃x,E9 x=v/\∀b,E3 x b↔S b:=by
 classical
 refine⟨.tuple (v::((co4 n).filter fun b=>decide (S b)).map fun b:Nat=>Value.int .u64 (b:Int)).toArray,rfl,fun b=>?_⟩
 simp only[E3,List.drop_succ_cons,List.drop_zero,List.mem_map,List.mem_filter,cq6,decide_eq_true_eq]
 constructor
 ·rintro⟨a,⟨_,h1⟩,h2⟩
  simp only[Value.int.injEq,true_and]at h2
  have:a=b:=al
  subst this;exact h1
 intro hb;exact⟨b,⟨h b hb,hb⟩,rfl⟩
end
inductive AV where
 |v (x:Value)
 |ptr (id off:Nat)
 |ea (id i j sz:Nat)
 |ref (id:Nat)
 |agg (l:List AV)
 |tup (l:List AV)
 |fn (f:Nat) (l:List AV)
 |bm (f:Nat) (l:List AV)
 |tref (id:Nat)
def U3:Value->Nat
 |.pointer (some a)=>a.block
 |_=>0
def aE0(n:Nat):Value->Addr
 |.slice (some a) _ _=>⟨a.block,a.off+n,none⟩
 |_=>⟨0,n,none⟩
mutual
def AV.val(ρ:Nat->Value):AV->Value
 |.v x=>x
 |.ptr id off=>.pointer (some ⟨U3 (ρ id),off,none⟩)
 |.ea id i j sz=>.pointer (some (aE0 (i*sz+j) (E9 (ρ id))))
 |.ref id=>ρ id
 |.agg l=>.agg (AV.vals ρ l).toArray
 |.tup l=>.tuple (AV.vals ρ l).toArray
 |.fn f l=>.func (.func f) #[] (AV.vals ρ l).toArray
 |.bm f l=>.func (.func f) (AV.vals ρ l).toArray #[]
 |.tref id=>E9 (ρ id)
def AV.vals(ρ:Nat->Value):List AV->List Value
 |[]=>[]
 |x::r=>x.val ρ::AV.vals ρ r
end
mutual
def AV.ids:AV->List Nat
 |.v _=>[]
 |.ptr id _=>[id]
 |.ea id _ _ _=>[id]
 |.ref id=>[id]
 |.agg l=>AV.idsL l
 |.tup l=>AV.idsL l
 |.fn _ l=>AV.idsL l
 |.bm _ l=>AV.idsL l
 |.tref id=>[id]
def AV.idsL:List AV->List Nat
 |[]=>[]
 |x::r=>x.ids++AV.idsL r
end
mutual
def AV.ren(σ:Nat->Nat):AV->AV
 |.v x=>.v x
 |.ptr id off=>.ptr (σ id) off
 |.ea id i j sz=>.ea (σ id) i j sz
 |.ref id=>.ref (σ id)
 |.agg l=>.agg (AV.renL σ l)
 |.tup l=>.tup (AV.renL σ l)
 |.fn f l=>.fn f (AV.renL σ l)
 |.bm f l=>.bm f (AV.renL σ l)
 |.tref id=>.tref (σ id)
def AV.renL(σ:Nat->Nat):List AV->List AV
 |[]=>[]
 |x::r=>x.ren σ::AV.renL σ r
end
mutual
theorem AV.val_congr{ρ ρ':Nat->Value}:∀(x:AV),(∀id∈x.ids,ρ' id=ρ id)->x.val ρ'=x.val ρ
 |.v _,_=>rfl
 |.ptr id _,h=>by simp only[AV.val];rw[h id (by simp[AV.ids])]
 |.ea id _ _ _,h=>by simp only[AV.val];rw[h id (by simp[AV.ids])]
 |.ref id,h=>h id (by simp[AV.ids])
 |.agg l,h=>by simp only[AV.val];rw[AV.vals_congr l h]
 |.tup l,h=>by simp only[AV.val];rw[AV.vals_congr l h]
 |.fn _ l,h=>by simp only[AV.val];rw[AV.vals_congr l h]
 |.bm _ l,h=>by simp only[AV.val];rw[AV.vals_congr l h]
 |.tref id,h=>by simp only[AV.val];rw[h id (by simp[AV.ids])]
theorem AV.vals_congr{ρ ρ':Nat->Value}:∀(l:List AV),(∀id∈AV.idsL l,ρ' id=ρ id)->AV.vals ρ' l=AV.vals ρ l
 |[],_=>rfl
 |x::r,h=>by
  simp only[AV.vals]
  rw[AV.val_congr x fun id hi=>h id (by simp[AV.idsL,hi]),AV.vals_congr r fun id hi=>h id (by simp[AV.idsL,hi])]
end
mutual
theorem AV.val_ren{ρ:Nat->Value}{σ:Nat->Nat}:∀(x:AV),(x.ren σ).val ρ=x.val fun i=>ρ (σ i)
 |.v _=>rfl
 |.ptr _ _=>rfl
 |.ea _ _ _ _=>rfl
 |.ref _=>rfl
 |.agg l=>by simp only[AV.ren,AV.val];rw[AV.vals_ren l]
 |.tup l=>by simp only[AV.ren,AV.val];rw[AV.vals_ren l]
 |.fn _ l=>by simp only[AV.ren,AV.val];rw[AV.vals_ren l]
 |.bm _ l=>by simp only[AV.ren,AV.val];rw[AV.vals_ren l]
 |.tref _=>rfl
theorem AV.vals_ren{ρ:Nat->Value}{σ:Nat->Nat}:∀(l:List AV),AV.vals ρ (AV.renL σ l)=AV.vals (fun i=>ρ (σ i)) l
 |[]=>rfl
 |x::r=>by simp only[AV.renL,AV.vals];rw[AV.val_ren x,AV.vals_ren r]
end
theorem AV.vals_length(ρ:Nat->Value)(l:List AV):(AV.vals ρ l).length=l.length:=by
 induction l with
 |nil=>rfl
 |cons x r ih=>simp[AV.vals,ih]
theorem AV.vals_get(ρ:Nat->Value):∀(l:List AV) (i:Nat),(AV.vals ρ l)[i]? =(l[i]?).map (AV.val ρ)
 |[],i=>by simp[AV.vals]
 |x::r,0=>by simp[AV.vals]
 |x::r,i+1=>by simp[AV.vals,AV.vals_get ρ r i]
theorem AV.vals_append(ρ:Nat->Value)(l m:List AV):AV.vals ρ (l++m)=AV.vals ρ l++AV.vals ρ m:=by
 induction l with
 |nil=>rfl
 |cons x r ih=>simp[AV.vals,ih]
theorem AV.vals_take(ρ:Nat->Value):∀(l:List AV) (n:Nat),AV.vals ρ (l.take n)=(AV.vals ρ l).take n
 |[],n=>by simp[AV.vals]
 |x::r,0=>by simp[AV.vals]
 |x::r,n+1=>by simp[AV.vals,AV.vals_take ρ r n]
theorem AV.vals_drop(ρ:Nat->Value):∀(l:List AV) (n:Nat),AV.vals ρ (l.drop n)=(AV.vals ρ l).drop n
 |[],n=>by simp[AV.vals]
 |x::r,0=>by simp[AV.vals]
 |x::r,n+1=>by simp[AV.vals,AV.vals_drop ρ r n]
inductive It where
 |none
 |dead
 |box (cs:List AV)
 |dat (d:D)
 |row (e:TypeId) (d:D)
 |tree (d:D)
 |kept (e:Option TypeId) (d:D)
 |hole (k i:Nat) (l:List (List Int))
 |err
def It.ids:It->List Nat
 |.box cs=>AV.idsL cs
 |.hole k _ _=>[k]
 |_=>[]
def It.ren(σ:Nat->Nat):It->It
 |.box cs=>.box (AV.renL σ cs)
 |.hole k i l=>.hole (σ k) i l
 |x=>x
def It.res(ρ:Nat->Value)(id:Nat):It->Rs
 |.none=>Rs.none
 |.dead=>Rs.none
 |.box cs=>.box (U3 (ρ id)) (AV.vals ρ cs)
 |.dat d=>.dat fun w φ=>RD w φ d (ρ id)
 |.row e d=>.row e d.sz (ρ id) d.len fun xs w φ=>RW w φ d xs
 |.tree d=>.own (E3 (ρ id)) fun w=>F2 w (E3 (ρ id)) d (E9 (ρ id))
 |(.kept (Option.some e) d)=>.row e d.sz (ρ id) d.len fun xs w φ=>RW w φ d xs
 |(.kept Option.none d)=>.own (E3 (ρ id)) fun w=>F2 w (E3 (ρ id)) d (E9 (ρ id))
 |.err=>.dat fun _ _=>∃t p,ρ id=.iface t p
 |.hole k i l=>.own (fun b=>E3 (ρ id) b/\(ρ k).ownBlock≠some b) fun w=>aU8 w (E3 (ρ id)) i l (ρ k) (E9 (ρ id))
def It.unK:It->It
 |(.kept (Option.some e) d)=>.row e d
 |(.kept Option.none d)=>.tree d
 |x=>x
theorem It.res_unK{ρ:Nat->Value}{i:Nat}(x:It):x.unK.res ρ i=x.res ρ i:=by
 cases x with
 |kept e d=>cases e<;>rfl
 |_=>rfl
theorem It.ids_unK(x:It):x.unK.ids=x.ids:=by
 cases x with
 |kept e d=>cases e<;>rfl
 |_=>rfl
theorem It.unK_ren(σ:Nat->Nat)(x:It):(x.ren σ).unK=x.unK.ren σ:=by
 cases x with
 |kept e d=>cases e<;>rfl
 |_=>rfl
theorem It.res_congr{ρ ρ':Nat->Value}{id:Nat}(x:It)(h:∀i∈x.ids,ρ' i=ρ i)(hid:x=.none\/x=.dead\/ρ' id=ρ id):x.res ρ' id=x.res ρ id:=by
 cases x with
 |none=>rfl
 |dead=>rfl
 |box cs=>rcases hid with h0|h0|h0<;>first|cases h0|(simp only[It.res];rw[h0,AV.vals_congr cs h])
 |dat d=>rcases hid with h0|h0|h0<;>first|cases h0|(simp only[It.res];rw[h0])
 |row e d=>rcases hid with h0|h0|h0<;>first|cases h0|(simp only[It.res];rw[h0])
 |tree d=>rcases hid with h0|h0|h0<;>first|cases h0|(simp only[It.res];rw[h0])
 |kept e d=>cases e<;>(rcases hid with h0|h0|h0<;>first|cases h0|(simp only[It.res];rw[h0]))
 |err=>rcases hid with h0|h0|h0<;>first|cases h0|(simp only[It.res];rw[h0])
 |hole k i l=>rcases hid with h0|h0|h0<;>first|cases h0|(simp only[It.res];rw[h0,h k (by simp[It.ids])])
theorem It.res_ren{ρ:Nat->Value}{σ:Nat->Nat}{i:Nat}(x:It):(x.ren σ).res ρ (σ i)=x.res (fun i=>ρ (σ i)) i:=by
 cases x with
 |box cs=>simp only[It.ren,It.res];rw[AV.vals_ren]
 |kept e d=>cases e<;>rfl
 |_=>rfl
def p6(l:List It):Nat->It:=fun i=>l.getD i .none
def n6{ι:Type}(F:ι->Rs)(ρ:Nat->Value)(S:Nat->It):ι ⊕ Nat->Rs
 |.inl i=>F i
 |.inr j=>(S j).res ρ j
def n5(S:Nat->It):List (Nat×It)->Nat->It
 |[],i=>S i
 |(j,x)::r,i=>if i=j then x else n5 S r i
theorem at8{S:Nat->It}{l:List (Nat×It)}{i:Nat}(h:i∉l.map (·.1)):n5 S l i=S i:=by
 induction l with
 |nil=>rfl
 |cons p r ih=>
  simp only[cq5,cq9,not_or]at h
  simp only[n5,if_neg h.1];exact ih h.2
def Inv(S:Nat->It)(ρ:Nat->Value)(mk:List Nat):Prop:=∀ρ':Nat->Value,(∀id,id∉mk->ρ' id=ρ id)->∀j,(S j).res ρ' j=(S j).res ρ j
def D4(mk:List Nat)(ρ ρ':Nat->Value):Prop:=∀id,id∉mk->ρ' id=ρ id
theorem D4.refl(mk:List Nat)(ρ:Nat->Value):D4 mk ρ ρ:=fun _ _=>rfl
section
variable{P:Program}{ι:Type}{φ ψ:Nat->Prop}{w0 w w':World}{F:ι->Rs}{ρ:Nat->Value}{S:Nat->It}
def N5(P:Program)(o:Oper)(e:Operand->Value)(w:World)(K:Value->World->Prop):Prop:=
 (∃v w',(execOp e o).run P w=.ok (.value v) w'/\K v w')\/(∃w',(execOp e o).run P w=.ok .skip w'/\K undef w')\/
  ∃f args w',(execOp e o).run P w=.ok (.enter f args) w'/\Calls P f args w' fun x w''=>∃v,x=.returned v/\K v w''
theorem N5.mono{o:Oper}{e:Operand->Value}{K K':Value->World->Prop}(h:N5 P o e w K)(hk:∀v w',K v w'->K' v w'):N5 P o e w K':=by
 rcases h with⟨v,w',h1,h2⟩|⟨w',h1,h2⟩|⟨f,args,w',h1,h2⟩
 ·exact .inl ⟨v,w',h1,hk _ _ h2⟩
 ·exact .inr (.inl ⟨w',h1,hk _ _ h2⟩)
 exact .inr (.inr ⟨f,args,w',h1,h2.mono fun x w'' ⟨v,h3,h4⟩=>⟨v,h3,hk _ _ h4⟩⟩)
theorem N5.wp{ops:Array Oper}{Q:Exit->Act->World->Prop}{rest:List Oper}{o:Oper}{a:Act}(hw:Region.wanted o (yielded ops a.tmps)=true)(h:N5 P o a.eval w fun v w'=>wpList P ops Q rest (a.put o.dst v) w'):wpList P ops Q (o::rest) a w:=by
 unfold wpList
 rw[if_pos hw]
 refine .inl ?_
 unfold Oper.wp
 rcases h with⟨v,w',h1,h2⟩|⟨w',h1,h2⟩|⟨f,args,w',h1,h2⟩
 ·rw[h1];exact h2
 ·rw[h1];exact h2
 rw[h1]
 refine Calls.mono h2 fun x w'' ⟨v,h3,h4⟩=>?_
 subst h3;exact h4
theorem bn0{ops:Array Oper}{Q:Exit->Act->World->Prop}{rest:List Oper}{o:Oper}{a:Act}(hw:Region.wanted o (yielded ops a.tmps)=false)(h:wpList P ops Q rest (a.put o.dst undef) w):wpList P ops Q (o::rest) a w:=by
 unfold wpList
 rw[if_neg (by simp[hw])];exact h
theorem k8.one(M:k8 φ ψ w0 w (n6 F ρ S))(id:Nat)(x:It)(mk:List Nat){ρ':Nat->Value}(hi:Inv S ρ mk)(ha:D4 mk ρ ρ')
  (hk:C6 (fun b=>¬((S id).res ρ id).blk b) w w') (hg:∀g,(x.res ρ' id).blk g->((S id).res ρ id).blk g\/w.heap.size<=g)
  (h:(x.res ρ' id).holds w' (FrF φ (n6 F ρ' (n5 S [(id,x)])))):k8 φ ψ w0 w' (n6 F ρ' (n5 S [(id,x)])):=by
 have e:n6 F ρ S=n6 F ρ' S:=by
  funext k;cases k with
  |inl i=>rfl
  |inr j=>exact(hi ρ' ha j).symm
 have hx:n6 F ρ' (n5 S [(id,x)]) (.inr id)=x.res ρ' id:=by simp[n6,n5]
 refine k8.put M (.inr id) (fun k hk'=>?_) hk (by rw[hx];exact h) (fun g hg'=>hg g (by rw[hx]at hg';exact hg'))
 rw[e]
 cases k with
 |inl i=>rfl
 |inr j=>
  have:j≠id:=fun e=>hk' (by rw[e])
  simp[n6,n5,this]
theorem C6.any{ψ:Nat->Prop}{w w':World}(b:Below w.heap.size w w'):C6 ψ w w':=C6.of_below b fun _ h _=>h
def xav:List X->Nat->List AV
 |[],_=>[]
 |.v x::r,id=>.v x::xav r id
 |.sl _::r,id=>.ref id::xav r (id+1)
def X9:List X->Nat->List (Nat×It)
 |[],_=>[]
 |.v _::r,id=>X9 r id
 |.sl d::r,id=>(id,.dat d)::X9 r (id+1)
theorem aW1:∀{xs:List X} {id j:Nat},j∈(X9 xs id).map (·.1)->id<=j
 |[],_,_,h=>by simp[X9]at h
 |.v _::r,id,j,h=>aW1 (xs:=r) h
 |.sl d::r,id,j,h=>by
  simp only[X9,cq5,cq9]at h
  rcases h with rfl|h
  ·exact cn4 _
  have:=aW1 h;omega
def XHs(w:World)(φ:Nat->Prop):List X->List Value->Prop
 |[],[]=>True
 |x::r,u::s=>XH w φ x u/\XHs w φ r s
 |_,_=>False
theorem XHs.agr{φ φ':Nat->Prop}(ha:Agr φ φ' w w'):∀{xs:List X} {us:List Value},XHs w φ xs us->XHs w' φ' xs us
 |[],[],_=>trivial
 |_::_,_::_,h=>⟨XH.nice _ _ _ _ _ _ ha h.1,XHs.agr ha h.2⟩
 |[],_::_,h=>h
 |_::_,[],h=>h
theorem by8(S:Nat->It)(id:Nat)(x:It)(l:List (Nat×It))(h:id∉l.map (·.1)):n5 (n5 S [(id,x)]) l=n5 S ((id,x)::l):=by
 funext i
 by_cases e:i=id
 ·subst e;rw[at8 h];simp[n5]
 have:∀(l:List (Nat×It)),n5 (n5 S [(id,x)]) l i=n5 S l i:=by
  intro l
  induction l with
  |nil=>simp[n5,e]
  |cons p r ih=>simp only[n5];split;rfl;exact ih
 rw[this];simp[n5,e]
theorem k8.dats:∀(xs:List X) (us:List Value) (id:Nat) {ρ:Nat->Value} {S:Nat->It},k8 φ ψ w0 w (n6 F ρ S)->XHs w (FrF φ (n6 F ρ S)) xs us->(∀j∈(X9 xs id).map (·.1),S j=.none)->Inv S ρ ((X9 xs id).map (·.1))->
  ∃ρ',D4 ((X9 xs id).map (·.1)) ρ ρ'/\k8 φ ψ w0 w (n6 F ρ' (n5 S (X9 xs id)))/\us=AV.vals ρ' (xav xs id)
 |[],[],_,ρ,S,M,_,_,_=>⟨ρ,D4.refl _ _,M,rfl⟩
 |.v x::r,u::s,id,ρ,S,M,h,hn,hi=>by
  obtain⟨ρ',h1,h2,h3⟩:=k8.dats r s id M h.2 hn hi
  exact⟨ρ',h1,h2,by simp only[xav,AV.vals];rw[<-h3,show u=x from h.1];rfl⟩
 | .sl d :: r, u :: s, id, ρ, S, M, h, hn, hi => by
  have hid:S id=.none:=hn id (by simp[X9])
  have hnot:id∉(X9 r (id+1)).map (·.1):=fun h=>by have:=aW1 h;omega
  have ha:D4 ((X9 (.sl d::r) id).map (·.1)) ρ (fun j=>if j=id then u else ρ j):=fun j hj=>by
   have:j≠id:=fun e=>hj (by simp[X9,e])
   simp[this]
  have hsame:∀b,FrF φ (n6 F ρ S) b->FrF φ (n6 F (fun j=>if j=id then u else ρ j) (n5 S [(id,.dat d)])) b:=fun b hb=>⟨hb.1,fun k hk=>by
   cases k with
   |inl i=>exact hb.2 (.inl i) hk
   |inr j=>
    by_cases e:j=id
    ·subst e;simp only[n6,n5,if_true]at hk;exact hk.elim
    simp only[n6,n5,if_neg e]at hk
    rw[hi _ ha j]at hk
    exact hb.2 (.inr j) hk⟩
  have M1:=M.one id (.dat d) _ hi ha (C6.refl _ _) (fun g hg=>hg.elim) (by
   refine⟨RD.nice _ _,?_⟩
   simp only[if_true]
   exact RD.nice _ _ _ _ _ _ (Agr.mono fun b _ hb=>hsame b hb) h.1)
  obtain⟨ρ',h1,h2,h3⟩:=k8.dats r s (id+1) M1 (XHs.agr (Agr.mono fun b _ hb=>hsame b hb) h.2)
   (fun j hj=>by
    have:j≠id:=fun e=>hnot (e▸hj)
    simp only[n5,if_neg this];exact hn j (by simp only[X9,cq5,cq9];exact .inr hj))
   (fun ρ2 h2 j=>by
    have ha2:D4 ((X9 (.sl d::r) id).map (·.1)) ρ ρ2:=fun k hk=>by
     have hk1:k≠id:=fun e=>hk (by simp[X9,e])
     rw[h2 k fun hh=>hk (by simp only[X9,cq5,cq9];exact .inr hh)];simp[hk1]
    by_cases e:j=id
    ·subst e
     simp only[n5,if_true,It.res]
     rw[h2 j hnot];simp
    simp only[n5,if_neg e]
    rw[hi _ ha2 j,hi _ ha j])
  refine⟨ρ',fun j hj=>?_,by rw[by8 _ _ _ _ hnot]at h2;exact h2,?_⟩
  ·rw[h1 j fun hh=>hj (by simp only[X9,cq5,cq9];exact .inr hh)]
   exact ha j hj
  simp only[xav,AV.vals]
  rw[<-h3]
  simp only[AV.val]
  rw[h1 id hnot];simp
 |[],_::_,_,_,_,_,h,_,_=>h.elim
 |_::_,[],_,_,_,_,h,_,_=>by cases h
end
def x6:List Prop->Prop
 |[]=>True
 |p::r=>p/\x6 r
theorem x6.append{l m:List Prop}:x6 (l++m)↔x6 l/\x6 m:=by
 induction l with
 |nil=>simp[x6]
 |cons p r ih=>simp[x6,ih,and_assoc]
def aB5(P:Program)(t:TypeId):Option Bool:=
 match P.underlying t with
 |some (.struct _)=>some true
 |some (.array _ _)=>some true
 |some _=>some false
 |none=>none
def Z3(P:Program)(t:TypeId):Option Nat:=(P.info? t).map (·.size)
def L7(P:Program)(t:TypeId):Option Value:=(P.info? t).bind (·.zero)
def aI1(P:Program)(t:TypeId)(f:Nat):Option (Nat×TypeId):=
 match P.underlying t with
 |some (.struct fs)=>(fs[f]?).map fun f=>(f.offset,f.type)
 |_=>none
def U7(P:Program)(t:TypeId):Option TypeId:=
 match P.underlying t with
 |some (.slice e)=>some e
 |_=>none
theorem an1{P:Program}{t:TypeId}{b:Bool}(h:aB5 P t=some b)(w:World):(isAgg t).run P w=.ok b w:=by
 unfold aB5 at h
 unfold isAgg
 cases hu:P.underlying t with
 |none=>rw[hu]at h;cases h
 |some d=>
  rw[Sem.run_bind,run_underlying hu]
  simp only[Result.andThen_ok]
  rw[hu]at h
  cases d<;>(simp at h;subst h;rfl)
theorem F8{P:Program}{t:TypeId}{n:Nat}(h:Z3 P t=some n)(w:World):(sizeOf t).run P w=.ok n w:=by
 unfold Z3 at h
 obtain⟨i,h1,h2⟩:=cn9.1 h
 simp[sizeOf,typeInfo,h1,h2]
theorem aS7{P:Program}{t:TypeId}{v:Value}(h:L7 P t=some v)(w:World):(zeroValue t).run P w=.ok v w:=by
 unfold L7 at h
 cases hi:P.info? t with
 |none=>rw[hi]at h;cases h
 |some i=>
  rw[hi]at h
  have h':i.zero=some v:=h
  simp[zeroValue,typeInfo,hi,h']
theorem bh4{P:Program}{t:TypeId}{f off:Nat}{ft:TypeId}(h:aI1 P t f=some (off,ft)):∃fs x,P.underlying t=some (.struct fs)/\fs[f]? =some x/\x.offset=off/\x.type=ft:=by
 unfold aI1 at h
 cases hu:P.underlying t with
 |none=>rw[hu]at h;cases h
 |some d=>
  rw[hu]at h
  cases d<;>first|cases h|skip
  rename_i fs
  obtain⟨x,h1,h2⟩:=cn9.1 h
  cases h2
  exact⟨fs,x,rfl,h1,rfl,rfl⟩
theorem Z7{P:Program}{t e:TypeId}(h:U7 P t=some e):P.underlying t=some (.slice e):=by
 unfold U7 at h
 cases hu:P.underlying t with
 |none=>rw[hu]at h;cases h
 |some d=>
  rw[hu]at h
  cases d<;>first|(cases h;rfl)|cases h
def ev(tm:Nat->Option AV):Operand->Option AV
 |.tmp t=>tm t
 |.const v=>some (.v v)
 |.global g=>some (.v (.pointer (some ⟨g,0,none⟩)))
 |.func f=>some (.fn f [])
def bx5(op:BinOp):Value->Value->Option (Value×List Prop)
 | .int k a, .int k' b =>
  if k=k' then
   match op with
   |.add=>some (.int k (a+b),[k.wrap (a+b)=a+b])
   |.sub=>some (.int k (a-b),[k.wrap (a-b)=a-b])
   |.mul=>some (.int k (a*b),[k.wrap (a*b)=a*b])
   |.quo=>some (.int k (a.tdiv b),[b≠0,k.wrap (a.tdiv b)=a.tdiv b])
   |.rem=>some (.int k (a.tmod b),[b≠0])
   |.and=>some (.int k (k.wrap (BitVec.ofInt k.bits a&&&BitVec.ofInt k.bits b).toNat),[])
   |.or=>some (.int k (k.wrap (BitVec.ofInt k.bits a|||BitVec.ofInt k.bits b).toNat),[])
   |.xor=>some (.int k (k.wrap (BitVec.ofInt k.bits a^^^BitVec.ofInt k.bits b).toNat),[])
   |.andNot=>some (.int k (k.wrap (BitVec.ofInt k.bits a&&& ~~~(BitVec.ofInt k.bits b)).toNat),[])
   |.eql=>some (.bool (a==b),[])
   |.neq=>some (.bool (a !=b),[])
   |.lss=>some (.bool (a<b),[])
   |.leq=>some (.bool (a<=b),[])
   |.gtr=>some (.bool (a>b),[])
   |.geq=>some (.bool (a>=b),[])
   |_=>none
  else none
 |.string a,.string b=>
  match op with
  |.add=>some (.string (a++b),[((a.size+b.size:Nat):Int)<=9223372036854775807])
  |.eql=>some (.bool (a.toList==b.toList),[])
  |.neq=>some (.bool !(a.toList==b.toList),[])
  |_=>none
 |_,_=>none
theorem bB7{P:Program}{w:World}{op:BinOp}{t:TypeId}{a b r:Value}{obs:List Prop}{x y:Operand}(h:bx5 op a b=some (r,obs))(ho:x6 obs):
  ((do eqGuard op t x y a b;Go.binOp op t a b):Sem Value).run P w=.ok r w:=by
 have hg:(eqGuard op t x y a b).run P w=.ok () w:=by
  unfold eqGuard
  cases a<;>cases b<;>first|(simp[bx5]at h;done)|(split<;>rfl)
 rw[Sem.run_bind,hg,Result.andThen_ok]
 cases a<;>cases b<;>first|(simp[bx5]at h;done)|skip
 ·rename_i k a k' b
  simp only[bx5]at h
  split at h
  ·rename_i hk
   subst hk
   cases op<;>simp only[reduceCtorEq]at h<;>first
    |(simp only[Option.some.injEq,Prod.mk.injEq]at h;obtain⟨rfl,rfl⟩:=h;simp only[x6]at ho;simp[Go.binOp,Op.intArith,Op.intBits,Op.intCmp,Op.intDiv,ho];done)
    |cases h
  cases h
 rename_i a b
 simp only[bx5]at h
 cases op<;>simp only[reduceCtorEq]at h<;>first
  |(simp only[Option.some.injEq,Prod.mk.injEq]at h;obtain⟨rfl,rfl⟩:=h;simp only[x6]at ho;simp[Go.binOp,Op.stringOp,IntKind.max,IntKind.bits,IntKind.signed];try (have:=ho.1;omega);done)
  |cases h
def ar4{α:Type}(ys:List α)(p:Nat):List α->List α
 |[]=>ys
 |u::r=>ar4 (ys.set p u) (p+1) r
theorem AV.vals_set(ρ:Nat->Value):∀(l:List AV) (i:Nat) (x:AV),AV.vals ρ (l.set i x)=(AV.vals ρ l).set i (x.val ρ)
 |[],i,x=>by simp[AV.vals]
 |y::r,0,x=>by simp[AV.vals]
 |y::r,i+1,x=>by simp[AV.vals,AV.vals_set ρ r i x]
theorem AV.vals_setL(ρ:Nat->Value):∀(us l:List AV) (p:Nat),AV.vals ρ (ar4 l p us)=setFrom (AV.vals ρ l) p (AV.vals ρ us)
 |[],l,p=>by simp[ar4,AV.vals,setFrom]
 |u::r,l,p=>by simp only[ar4,AV.vals,setFrom];rw[AV.vals_setL ρ r _ _,AV.vals_set]
theorem U9:∀(us ys:List Value) (p:Nat),p+us.length<=ys.length->setFrom ys p us=ys.take p++us++ys.drop (p+us.length)
 |[],ys,p,h=>by simp[setFrom]
 |u::r,ys,p,h=>by
  simp only[cn6]at h
  simp only[setFrom]
  rw[U9 r _ _ ah,ap8 _ _ _ al,List.drop_set_of_lt al]
  simp[Nat.add_assoc,Nat.add_comm 1]
theorem aG0:∀(l:List Value) (k off:Nat) (c:Array Value),(l.zipIdx k).foldl (fun cs (x:Value×Nat)=>cs.setIfInBounds (off+x.2) x.1) c=(setFrom c.toList (off+k) l).toArray
 |[],k,off,c=>by simp[setFrom]
 |a::r,k,off,c=>by
  simp only[List.zipIdx_cons,List.foldl_cons,setFrom]
  rw[aG0 r (k+1) off]
  simp[Nat.add_assoc]
def AV.cells:AV->List AV
 |.agg l=>l
 |x=>[x]
def itD:It->Option D
 |.dat d=>some d
 |.row _ d=>some d
 |_=>none
def itB:It->Bool
 |.box _=>true
 |_=>false
def itT:It->Option D
 |.tree d=>some d
 |_=>none
mutual
def okc(S:Nat->It):AV->Bool
 |.v x=>x.oneCell'
 |.ptr a _=>itB (S a)
 |.ea a _ _ _=>(itD (S a)).isSome
 |.ref a=>(itD (S a)).isSome
 |.fn _ l=>aK4 S l
 |.bm _ l=>ab1 S l
 |.tref a=>(itT (S a)).isSome
 |.agg _=>false
 |.tup _=>false
def aK4(S:Nat->It):List AV->Bool
 |[]=>true
 |x::r=>okc S x&&aK4 S r
def ab1(S:Nat->It):List AV->Bool
 |[]=>true
 |x::r=>(match x with|.agg l=>aK4 S l|y=>okc S y)&&ab1 S r
end
def aD5(S:Nat->It)(x:AV):Bool:=match x with
 |.agg l=>aK4 S l
 |x=>okc S x
mutual
theorem M6{S:Nat->It}{id:Nat}(hS:S id=.none):∀{x:AV},okc S x=true->id∉x.ids
 |.v _,_=>by simp[AV.ids]
 |.ptr a _,h=>by
  simp only[AV.ids,cq2]
  intro e;subst e;simp[okc,hS,itB]at h
 |.ea a _ _ _,h=>by
  simp only[AV.ids,cq2]
  intro e;subst e;simp[okc,hS,itD]at h
 |.ref a,h=>by
  simp only[AV.ids,cq2]
  intro e;subst e;simp[okc,hS,itD]at h
 |.fn _ l,h=>av2 hS (by simpa[okc]using h)
 |.bm _ l,h=>R5 hS (by simpa[okc]using h)
 |.tref a,h=>by
  simp only[AV.ids,cq2]
  intro e;subst e;simp[okc,hS,itT]at h
 |.agg _,h=>by simp[okc]at h
 |.tup _,h=>by simp[okc]at h
theorem av2{S:Nat->It}{id:Nat}(hS:S id=.none):∀{l:List AV},aK4 S l=true->id∉AV.idsL l
 |[],_=>by simp[AV.idsL]
 |x::r,h=>by
  simp only[aK4,cm9]at h
  simp only[AV.idsL,cp2,not_or]
  exact⟨M6 hS h.1,av2 hS h.2⟩
theorem R5{S:Nat->It}{id:Nat}(hS:S id=.none):∀{l:List AV},ab1 S l=true->id∉AV.idsL l
 |[],_=>by simp[AV.idsL]
 |.agg l::r,h=>by
  simp only[ab1,cm9]at h
  simp only[AV.idsL,AV.ids,cp2,not_or]
  exact⟨av2 hS h.1,R5 hS h.2⟩
 |.v x::r,h=>by
  simp only[ab1,cm9]at h
  simp only[AV.idsL,cp2,not_or]
  exact⟨M6 hS h.1,R5 hS h.2⟩
 |.ptr a b::r,h=>by
  simp only[ab1,cm9]at h
  simp only[AV.idsL,cp2,not_or]
  exact⟨M6 hS h.1,R5 hS h.2⟩
 |.ea a b c d::r,h=>by
  simp only[ab1,cm9]at h
  simp only[AV.idsL,cp2,not_or]
  exact⟨M6 hS h.1,R5 hS h.2⟩
 |.ref a::r,h=>by
  simp only[ab1,cm9]at h
  simp only[AV.idsL,cp2,not_or]
  exact⟨M6 hS h.1,R5 hS h.2⟩
 |.tup l::r,h=>by
  simp only[ab1,cm9]at h
  simp[okc]at h
 |.fn f l::r,h=>by
  simp only[ab1,cm9]at h
  simp only[AV.idsL,cp2,not_or]
  exact⟨M6 hS h.1,R5 hS h.2⟩
 |.bm f l::r,h=>by
  simp only[ab1,cm9]at h
  simp only[AV.idsL,cp2,not_or]
  exact⟨M6 hS h.1,R5 hS h.2⟩
 |.tref a::r,h=>by
  simp only[ab1,cm9]at h
  simp only[AV.idsL,cp2,not_or]
  exact⟨M6 hS h.1,R5 hS h.2⟩
end
theorem bD7{S:Nat->It}{id:Nat}(hS:S id=.none){x:AV}(h:aD5 S x=true):id∉AV.idsL x.cells:=by
 cases x with
 |agg l=>exact av2 hS h
 |v y=>simp[AV.cells,AV.idsL,AV.ids]
 |ptr a b=>have:=M6 hS (x:=.ptr a b) h;simpa[AV.cells,AV.idsL]using this
 |ea a b c d=>have:=M6 hS (x:=.ea a b c d) h;simpa[AV.cells,AV.idsL]using this
 |ref a=>have:=M6 hS (x:=.ref a) h;simpa[AV.cells,AV.idsL]using this
 |fn a b=>have:=M6 hS (x:=.fn a b) h;simpa[AV.cells,AV.idsL]using this
 |bm a b=>have:=M6 hS (x:=.bm a b) h;simpa[AV.cells,AV.idsL]using this
 |tref a=>have:=M6 hS (x:=.tref a) h;simpa[AV.cells,AV.idsL]using this
 |tup l=>cases h
section
variable{P:Program}{ι:Type}{φ ψ:Nat->Prop}{w0 w w':World}{F:ι->Rs}{ρ:Nat->Value}{S:Nat->It}
theorem k8.datAt(M:k8 φ ψ w0 w (n6 F ρ S)){id:Nat}{d:D}(h:S id=.dat d):RD w (FrF φ (n6 F ρ S)) d (ρ id):=by
 have:=M.holds (.inr id)
 simp only[n6,h,It.res]at this
 exact this.2
theorem k8.rowAt(M:k8 φ ψ w0 w (n6 F ρ S)){id:Nat}{e:TypeId}{d:D}(h:S id=.row e d):∃xs,w.ownsRow 0 e d.sz (ρ id) d.len xs/\RW w (FrF φ (n6 F ρ S)) d xs:=by
 have:=M.holds (.inr id)
 simp only[n6,h,It.res]at this
 exact this.2
theorem k8.boxAt(M:k8 φ ψ w0 w (n6 F ρ S)){id:Nat}{cs:List AV}(h:S id=.box cs):D3 w (U3 (ρ id)) (AV.vals ρ cs):=by
 have:=M.holds (.inr id)
 simp only[n6,h,It.res]at this
 exact this
theorem k8.sliceAt(M:k8 φ ψ w0 w (n6 F ρ S)){id:Nat}{d:D}(h:itD (S id)=some d):∃a cap,ρ id=.slice a d.len cap/\d.len<=cap/\cap<=maxLen/\
  ∀i,i<d.len->∃b off,a=some ⟨b,off,none⟩/\∀j x,(d.elem i)[j]? =some x->∃u,w.cell? ⟨b,off+(i*d.sz+j),none⟩=some u/\XH w (FrF φ (n6 F ρ S)) x u:=by
 cases hS:S id with
 |dat d'=>
  rw[hS]at h;cases h
  obtain⟨a,cap,h1,h2,h3,h4⟩:=(M.datAt hS).open
  exact⟨a,cap,h1,h2,h3,fun i hi=>let⟨b,off,e,_,_,hc⟩:=h4 i hi;⟨b,off,e,hc⟩⟩
 |row e d'=>
  rw[hS]at h;cases h
  obtain⟨xs,h1,h2⟩:=M.rowAt hS
  obtain⟨_,a,cap,hv,k1,k2,k3⟩:=R4 h1
  refine⟨a,cap,hv,k1,k2,fun i hi=>?_⟩
  obtain⟨b,off,e,_,hc⟩:=k3 al
  exact⟨b,off,e,fun j x hx=>let⟨u,hu,hh⟩:=h2 i hi j x hx;⟨u,hc _ u hu,hh⟩⟩
 |none=>rw[hS]at h;cases h
 |dead=>rw[hS]at h;cases h
 |box cs=>rw[hS]at h;cases h
 |tree d=>rw[hS]at h;cases h
 |kept e d=>rw[hS]at h;cases h
 |hole k i l=>rw[hS]at h;cases h
 |err=>rw[hS]at h;cases h
theorem k8.treeAt(M:k8 φ ψ w0 w (n6 F ρ S)){id:Nat}{d:D}(h:itT (S id)=some d):F2 w (E3 (ρ id)) d (E9 (ρ id))/\∀b,E3 (ρ id) b->b<w.heap.size:=by
 have hS:S id=.tree d:=by
  cases hx:S id<;>rw[hx]at h<;>simp[itT]at h
  rw[h]
 have:=M.holds (.inr id)
 simp only[n6,hS,It.res]at this
 exact⟨this.2.1,this.2.2⟩
theorem aI2{S:Nat->Prop}{d:D}{v:Value}(h:F2 w S d v):∃a cap,v=.slice a d.len cap:=by
 obtain⟨e,xs,S',h0,h1,h2,h3,h4⟩:=h
 rcases h1.2 with⟨hv,hn⟩|⟨g,cap,cur,hv,_⟩
 ·exact⟨none,0,by rw[hv,hn]⟩
 exact⟨_,cap,hv⟩
theorem bo1(M:k8 φ ψ w0 w (n6 F ρ S)){x:AV}(h:okc S x=true):(x.val ρ).oneCell'=true:=by
 cases x with
 |v x=>exact h
 |ref id=>
  obtain⟨d,hd⟩:=cr7.1 (show(itD (S id)).isSome=true from h)
  obtain⟨a,cap,e,_⟩:=M.sliceAt hd
  simp only[AV.val];rw[e];rfl
 |tref id=>
  obtain⟨d,hd⟩:=cr7.1 (show(itT (S id)).isSome=true from h)
  obtain⟨a,cap,e⟩:=aI2 (M.treeAt hd).1
  simp only[AV.val];rw[e];rfl
 |agg l=>cases h
 |tup l=>cases h
 |_=>rfl
theorem bo2(M:k8 φ ψ w0 w (n6 F ρ S)):∀{l:List AV},aK4 S l=true->∀u∈AV.vals ρ l,u.oneCell'=true
 |[],_,u,hu=>by simp[AV.vals]at hu
 |x::r,h,u,hu=>by
  simp only[aK4,cm9]at h
  simp only[AV.vals,cq9]at hu
  rcases hu with rfl|hu
  ·exact bo1 M h.1
  exact bo2 M h.2 u hu
theorem a15{u:Value}(h:u.oneCell'=true):u.cells= #[u]:=by
 cases u<;>first|rfl|cases h
theorem ab0(M:k8 φ ψ w0 w (n6 F ρ S)){x:AV}(h:okc S x=true)(hx:x.cells=[x]):(x.val ρ).cells=(AV.vals ρ x.cells).toArray/\∀u∈AV.vals ρ x.cells,u.oneCell'=true:=by
 have h1:=bo1 M h
 rw[hx]
 refine⟨?_,?_⟩
 ·rw[a15 h1];rfl
 intro u hu
 simp only[AV.vals,cq2]at hu
 subst hu;exact h1
theorem aa9(M:k8 φ ψ w0 w (n6 F ρ S)){x:AV}(h:aD5 S x=true):(x.val ρ).cells=(AV.vals ρ x.cells).toArray/\∀u∈AV.vals ρ x.cells,u.oneCell'=true:=by
 cases x with
 |agg l=>exact⟨rfl,bo2 M h⟩
 |v y=>exact ab0 M (x:=.v y) h rfl
 |ptr a b=>exact ab0 M (x:=.ptr a b) h rfl
 |ea a b c d=>exact ab0 M (x:=.ea a b c d) h rfl
 |ref a=>exact ab0 M (x:=.ref a) h rfl
 |fn a b=>exact ab0 M (x:=.fn a b) h rfl
 |bm a b=>exact ab0 M (x:=.bm a b) h rfl
 |tref a=>exact ab0 M (x:=.tref a) h rfl
 |tup l=>cases h
def a90(P:Program)(t:TypeId)(S:Nat->It)(e:Operand->Option AV):List AV->List (Nat×Operand)->Option (List AV)
 |cs,[]=>some cs
 |cs,(i,x)::r=>
  match aI1 P t i,e x with
  |some (off,ft),some v=>if aD5 S v&&decide (Z3 P ft=some v.cells.length)&&decide (off+v.cells.length<=cs.length)then a90 P t S e (ar4 cs off v.cells) r else none
  |_,_=>none
theorem bq5(M:k8 φ ψ w0 w (n6 F ρ S)){t:TypeId}{fs:Array Field}(hu:P.underlying t=some (.struct fs)){e:Operand->Option AV}{g:Operand->Value}{places:Array (Nat×Nat)}
  (hp:∀i off ft n,aI1 P t i=some (off,ft)->Z3 P ft=some n->places[i]? =some (off,n)):
  ∀(parts:List (Nat×Operand)) (cs r:List AV),(∀p∈parts,∀v,e p.2=some v->g p.2=v.val ρ)->a90 P t S e cs parts=some r->Instr.fill (places[·]?) (AV.vals ρ cs).toArray (parts.map fun p=>(p.1,g p.2))=some (AV.vals ρ r).toArray
 |[],cs,r,_,h=>by simp only[a90,Option.some.injEq]at h;subst h;rfl
 | (i, x) :: rest, cs, r, hg, h => by
  simp only[a90]at h
  split at h
  ·rename_i off ft v h1 h2
   split at h
   ·rename_i hc
    simp only[cm9,decide_eq_true_eq]at hc
    obtain⟨⟨k1,k2⟩,k3⟩:=hc
    have hv:=hg (i,x) cr0 v h2
    simp only at hv
    obtain⟨c1,_⟩:=aa9 M k1
    simp only[cq5,Instr.fill]
    rw[hp i off ft _ h1 k2,hv,c1]
    simp only[List.size_toArray,AV.vals_length]
    have:¬off+v.cells.length>cs.length:=al
    simp only[ne_eq,not_true_eq_false,decide_false,Bool.false_or,decide_eq_true_eq,this,if_false]
    have ih:=bq5 M hu hp rest (ar4 cs off v.cells) r (fun p hp'=>hg p (cq8 _ hp')) h
    rw[AV.vals_setL]at ih
    rw[<-ih]
    congr 1
    have hz:=aG0 (AV.vals ρ v.cells) 0 off (AV.vals ρ cs).toArray
    simp only[Nat.add_zero]at hz
    rw[<-hz]
    simp[Array.zipIdx, <-Array.foldl_toList,List.mapIdx_eq_zipIdx_map]
   cases h
  cases h
end
def D.sub:D->Nat->Nat->D
 |.ints x,l,h=>.ints ((x.take h).drop l)
 |.bools x,l,h=>.bools ((x.take h).drop l)
 |.bytes x,l,h=>.bytes ((x.take h).drop l)
 |.strs x,l,h=>.strs ((x.take h).drop l)
 |.instrs x,l,h=>.instrs ((x.take h).drop l)
 |.events x,l,h=>.events ((x.take h).drop l)
 |.rows x,l,h=>.rows ((x.take h).drop l)
 |.brows x,l,h=>.brows ((x.take h).drop l)
 |.exprs x,l,h=>.exprs ((x.take h).drop l)
 |.stmts x,l,h=>.stmts ((x.take h).drop l)
def bp5(P:Program)(t:TypeId):Bool:=match P.underlying t with
 |some .bool=>true
 |_=>false
def b43(P:Program)(t:TypeId)(op:BinOp):Value->Value->Option (Value×List Prop)
 | .bool x, .bool y => if bp5 P t then match op with
   |.eql=>some (.bool (x==y),[])
   |.neq=>some (.bool !(x==y),[])
   |_=>none
  else none
 |a,c=>bx5 op a c
theorem bB6{P:Program}{w:World}{op:BinOp}{t:TypeId}{a b r:Value}{obs:List Prop}{x y:Operand}(h:b43 P t op a b=some (r,obs))(ho:x6 obs):
  ((do eqGuard op t x y a b;Go.binOp op t a b):Sem Value).run P w=.ok r w:=by
 unfold b43 at h
 split at h
 ·rename_i x1 y1
  have hg:(eqGuard op t x y (.bool x1) (.bool y1)).run P w=.ok () w:=by
   unfold eqGuard
   split<;>rfl
  rw[Sem.run_bind,hg,Result.andThen_ok]
  split at h
  ·rename_i hb
   have hu:P.underlying t=some .bool:=by
    unfold bp5 at hb
    split at hb
    ·assumption
    cases hb
   split at h<;>first|cases h|skip
   ·exact run_eql_bool w t x1 y1 hu
   exact run_neq_bool w t x1 y1 hu
  cases h
 exact bB7 h ho
def bG0:Operand->Bool
 |.const .nilIface=>true
 |_=>false
def aZ0(P:Program)(b:BinOp)(t:TypeId)(isNil:Bool):Option (AV×List Prop):=
 match P.underlying t with
 |some (.interface _)=>match b with
  |.eql=>some (.v (.bool isNil),[])
  |.neq=>some (.v (.bool !isNil),[])
  |_=>none
 |_=>none
def ac6(P:Program)(e:Operand->Option AV)(S:Nat->It):Op->Option (AV×List Prop)
 |.move x=>(e x).map fun r=>(r,[])
 |.assign x=>(e x).map fun r=>(r,[])
 |.binOp b t x y _=>match e x,e y with
  |some (.v .nilIface),some (.v .nilIface)=>if bG0 y then aZ0 P b t true else none
  |some (.v a),some (.v c)=>(b43 P t b a c).map fun r=>(.v r.1,r.2)
  |some (.ref id),some (.v .nilIface)=>(match S id with|.err=>aZ0 P b t false|_=>none)
  |_,_=>none
 |.unOp o _ x=>match o,e x with
  |.not,some (.v (.bool b))=>some (.v (.bool !b),[])
  |.neg,some (.v (.int k n))=>some (.v (.int k (0-n)),[k.wrap (0-n)=0-n])
  |_,_=>none
 |.nilCheck x=>match e x with
  |some (.ptr a b)=>some (.ptr a b,[])
  |some (.ea a b c d)=>some (.ea a b c d,[])
  |some (.fn a b)=>some (.fn a b,[])
  |some (.bm a b)=>some (.bm a b,[])
  |_=>none
 |.fieldAddr s x f=>match aI1 P s f,e x with
  |some (off,ft),some (.ptr a b)=>if(Z3 P ft).any (0< ·)then some (.ptr a (b+off),[])else none
  |some (off,ft),some (.ea a b c d)=>if(Z3 P ft).any (0< ·)then some (.ea a b (c+off) d,[])else none
  |_,_=>none
 | .field s x f => match aI1 P s f, e x with
  |some (off,ft),some (.agg l)=>
   match aB5 P ft,Z3 P ft with
   |some true,some n=>some (.agg ((l.drop off).take n),[])
   |some false,_=>(l[off]?).map fun r=>(r,[])
   |_,_=>none
  |_,_=>none
 |.extract x i=>match e x with
  |some (.tup l)=>(l[i]?).map fun r=>(r,[])
  |_=>none
 | .indexAddr t x ix => match e x, e ix with
  |some (.ref id),some (.v (.int _ i))=>
   match itD (S id),(U7 P t).bind (Z3 P)with
   |some d,some n=>if n=d.sz then some (.ea id i.toNat 0 d.sz,[0<=i,i<(d.len:Int)])else none
   |_,_=>none
  |some (.tref id),some (.v (.int _ i))=>
   match itT (S id),(U7 P t).bind (Z3 P)with
   |some d,some n=>if n=d.sz then some (.ea id i.toNat 0 d.sz,[0<=i,i<(d.len:Int)])else none
   |_,_=>none
  |_,_=>none
 | .index t x ix => match e x, e ix with
  |some (.v (.string s)),some (.v (.int _ i))=>
   match P.underlying t with
   |some .string=>some (.v (.int .u8 ((s.data.toList.getD i.toNat 0).toNat:Int)),[0<=i,i<(s.size:Int)])
   |_=>none
  |_,_=>none
 | .convert s d x => match e x with
  |some (.v (.int _ n))=>
   match(P.underlying s).isSome,P.underlying d with
   |true,some (.int k)=>some (.v (.int k n),[k.wrap n=n])
   |_,_=>none
  |some (.v (.string x))=>
   match(P.underlying s).isSome,P.underlying d with
   |true,some .string=>some (.v (.string x),[])
   |_,_=>none
  |_=>none
 |.makeFunc (.func f) first cap=>
  if first.isEmpty then(cap.toList.mapM e).map fun l=>(.fn f l,[])else if cap.isEmpty then(first.toList.mapM e).map fun l=>(.bm f l,[])else none
 | .build t parts =>
  match L7 P t,P.underlying t with
  |some z,some (.struct fs)=>
   match fs.toList.mapM (fun f=>(P.info? f.type).map fun i=>(f.offset,i.size))with
   |some _=>(a90 P t S e (z.cells.toList.map .v) parts.toList).map fun l=>(.agg l,[])
   |none=>none
  |_,_=>none
 | .call { callee := .builtin .len, args, argTypes } =>
  match args.toList,argTypes.toList with
  |[x],[t]=>match e x,P.underlying t with
   |some (.ref id),some (.slice _)=>(itD (S id)).map fun d=>(.v (.int .i64 d.len),[])
   |some (.v (.slice _ n _)),some (.slice _)=>some (.v (.int .i64 n),[])
   |some (.v (.string s)),some .string=>some (.v (.int .i64 s.size),[])
   |some (.tref id),some (.slice _)=>(itT (S id)).map fun d=>(.v (.int .i64 d.len),[])
   |_,_=>none
  |_,_=>none
 |_=>none
section
variable{P:Program}{ι:Type}{φ ψ:Nat->Prop}{w0 w w':World}{F:ι->Rs}{ρ:Nat->Value}{S:Nat->It}
theorem bH7(n m:Nat)(v:Value):(if m=0 then aE0 n v else(⟨(aE0 n v).block,(aE0 n v).off+m,none⟩:Addr))=aE0 (n+m) v:=by
 unfold aE0
 split
 ·rename_i h0
  subst h0
  split<;>simp
 split<;>simp[Nat.add_assoc]
theorem a66{α β:Type}{f:α->Option β}:∀{l:List α} {r:List β},l.mapM f=some r->∀{i:Nat} {x:α} {y:β},l[i]? =some x->f x=some y->r[i]? =some y
 |[],_,_,_,_,_,hx,_=>by simp at hx
 | a :: l, r, h, i, x, y, hx, hy => by
  rw[List.mapM_cons]at h
  cases ha:f a with
  |none=>rw[ha]at h;simp at h
  | some b =>
   cases hr:l.mapM f with
   |none=>rw[ha,hr]at h;simp at h
   |some m=>
    rw[ha,hr]at h
    simp at h;subst h
    cases i with
    |zero=>simp at hx;subst hx;rw[ha]at hy;cases hy;rfl
    |succ i=>simpa using a66 hr (by simpa using hx) hy
theorem ac2(ρ:Nat->Value):∀(z:List Value),AV.vals ρ (z.map .v)=z
 |[]=>rfl
 |a::r=>by simp only[cq5,AV.vals,AV.val];rw[ac2 ρ r]
theorem an4{e:Operand->Option AV}{g:Operand->Value}:∀{xs:List Operand} {l:List AV},(∀x∈xs,∀v,e x=some v->g x=v.val ρ)->xs.mapM e=some l->xs.map g=AV.vals ρ l
 |[],l,_,h=>by simp at h;subst h;rfl
 | x :: r, l, hg, h => by
  rw[List.mapM_cons]at h
  cases hx:e x with
  |none=>rw[hx]at h;simp at h
  | some v =>
   cases hr:r.mapM e with
   |none=>rw[hx,hr]at h;simp at h
   |some m=>
    rw[hx,hr]at h
    simp at h;subst h
    simp only[cq5,AV.vals]
    rw[hg x cr0 v hx,an4 (fun y hy=>hg y (cq8 _ hy)) hr]
theorem bO3(M:k8 φ ψ w0 w (n6 F ρ S)){o:Oper}{e:Operand->Option AV}{g:Operand->Value}(hg:∀x∈o.op.operands,∀v,e x=some v->g x=v.val ρ){r:AV}{obs:List Prop}(h:ac6 P e S o.op=some (r,obs))(ho:x6 obs):
  (execOp g o).run P w=.ok (.value (r.val ρ)) w:=by
 unfold execOp
 generalize o.op=op at*
 cases op<;>simp only[ac6]at h<;>first|cases h|skip
 case move x=>
  obtain⟨v,h1,h2⟩:=cn9.1 h
  cases h2
  simp[hg x af _ h1]
 case assign x=>
  obtain⟨v,h1,h2⟩:=cn9.1 h
  cases h2
  simp[hg x af _ h1]
 case binOp b t x y t'=>
  split at h
  ·rename_i h1 h2
   have hx:=hg x af _ h1
   have hy:=hg y af _ h2
   simp only[AV.val]at hx hy
   split at h<;>first|cases h|skip
   rename_i hc
   unfold aZ0 at h
   split at h<;>first|cases h|skip
   rename_i ms hu
   have hgd:(eqGuard b t x y .nilIface .nilIface).run P w=.ok () w:=by
    have:∃c,y=.const c:=by
     unfold bG0 at hc
     split at hc
     ·exact⟨_,rfl⟩
     cases hc
    obtain⟨c,rfl⟩:=this
    rw[eqGuard_nil_constR];rfl
   have hu':P.underlying t=some (.interface (P.methodsAt t)):=by simp[Program.methodsAt,hu]
   split at h<;>first|cases h|skip
   ·have hr:((do eqGuard .eql t x y .nilIface .nilIface;Go.binOp .eql t .nilIface .nilIface):Sem Value).run P w=.ok (.bool true) w:=by
     rw[Sem.run_bind,hgd,Result.andThen_ok];exact run_eql_nil_nil w t hu'
    simp only[hx,hy]
    rw[Sem.run_bind,hr];rfl
   have hr:((do eqGuard .neq t x y .nilIface .nilIface;Go.binOp .neq t .nilIface .nilIface):Sem Value).run P w=.ok (.bool false) w:=by
    rw[Sem.run_bind,hgd,Result.andThen_ok];exact run_neq_nil_nil w t hu'
   simp only[hx,hy]
   rw[Sem.run_bind,hr];rfl
  ·rename_i a c _ h1 h2
   obtain⟨v,h3,h4⟩:=cn9.1 h
   cases h4
   have hx:=hg x af _ h1
   have hy:=hg y af _ h2
   simp only[AV.val]at hx hy
   have hr:=bB6 (P:=P) (w:=w) (t:=t) (x:=x) (y:=y) (r:=v.1) (obs:=v.2) h3 ho
   simp only[hx,hy]
   rw[Sem.run_bind,hr];rfl
  ·rename_i id h1 h2
   have hx:=hg x af _ h1
   have hy:=hg y af _ h2
   simp only[AV.val]at hx hy
   split at h<;>first|cases h|skip
   rename_i hS
   have hM:=M.holds (.inr id)
   simp only[n6,hS,It.res,Rs.holds]at hM
   obtain⟨-,tt,pp,hv⟩:=hM
   unfold aZ0 at h
   split at h<;>first|cases h|skip
   rename_i ms hu
   have hgd:(eqGuard b t x y (.iface tt pp) .nilIface).run P w=.ok () w:=by cases b<;>rfl
   have hu':P.underlying t=some (.interface (P.methodsAt t)):=by simp[Program.methodsAt,hu]
   split at h<;>first|cases h|skip
   ·have hr:((do eqGuard .eql t x y (.iface tt pp) .nilIface;Go.binOp .eql t (.iface tt pp) .nilIface):Sem Value).run P w=.ok (.bool false) w:=by
     rw[Sem.run_bind,hgd,Result.andThen_ok];exact run_eql_held_nil w t tt pp hu'
    simp only[hx,hy,hv]
    rw[Sem.run_bind,hr];rfl
   have hr:((do eqGuard .neq t x y (.iface tt pp) .nilIface;Go.binOp .neq t (.iface tt pp) .nilIface):Sem Value).run P w=.ok (.bool true) w:=by
    rw[Sem.run_bind,hgd,Result.andThen_ok];exact run_neq_held_nil w t tt pp hu'
   simp only[hx,hy,hv]
   rw[Sem.run_bind,hr];rfl
  cases h
 case unOp b t x=>
  split at h<;>first|cases h|skip
  ·rename_i b h1
   simp[hg x af _ h1,AV.val,Op.unary]
  rename_i k n h1
  simp only[x6]at ho
  have ho1:=ho.1
  simp only[Int.zero_sub]at ho1
  simp[hg x af _ h1,AV.val,Op.unary,Op.intArith,ho1]
 case nilCheck x=>
  split at h<;>first|cases h|skip
  ·rename_i a b h1
   simp[hg x af _ h1,AV.val]
  ·rename_i a b c d h1
   simp[hg x af _ h1,AV.val]
  ·rename_i a b h1
   simp[hg x af _ h1,AV.val]
  rename_i a b h1
  simp[hg x af _ h1,AV.val]
 case fieldAddr s x f=>
  have key:∀(a:Addr) (off:Nat) (ft:TypeId),aI1 P s f=some (off,ft)->(Z3 P ft).any (0< ·)=true->(Instr.fieldAt s (.pointer (some a)) f).run P w=.ok (.pointer (some (a.add off))) w:=by
   intro a off ft h1 h2
   obtain⟨fs,y,k1,k2,k3,k4⟩:=bh4 h1
   cases hn:Z3 P ft with
   |none=>rw[hn]at h2;cases h2
   |some n=>
    rw[hn]at h2
    simp at h2
    subst k4
    simp[Instr.fieldAt,run_underlying k1,k2,Instr.sureAddr,fieldPlace,F8 hn,k3]
    intro h0;omega
  split at h
  ·rename_i off ft a b h1 h2
   split at h
   ·rename_i hs
    cases h
    simp only[hg x af _ h2,AV.val]
    rw[Sem.run_bind,key _ _ _ h1 hs]
    simp only[Result.andThen_ok,Sem.run_pure,Addr.add]
    split
    ·rename_i h0;subst h0;rfl
    rfl
   cases h
  ·rename_i off ft a b c d h1 h2
   split at h
   ·rename_i hs
    cases h
    simp only[hg x af _ h2,AV.val]
    rw[Sem.run_bind,key _ _ _ h1 hs]
    simp only[Result.andThen_ok,Sem.run_pure,Addr.add]
    rw[bH7,Nat.add_assoc]
   cases h
  cases h
 case field s x f=>
  split at h<;>first|cases h|skip
  rename_i off ft l h1 h2
  obtain⟨fs,y,k1,k2,k3,k4⟩:=bh4 h1
  subst k3;subst k4
  have hx:=hg x af _ h2
  simp only[AV.val]at hx
  split at h<;>first|cases h|skip
  ·rename_i n h3 h4
   simp[Instr.field,run_underlying k1,k2,hx,asAgg,part,an1 h3,F8 h4,AV.val,AV.vals_take,AV.vals_drop,List.take_drop]
  rename_i z h3
  obtain⟨v,h5,h6⟩:=cn9.1 h
  cases h6
  simp[Instr.field,run_underlying k1,k2,hx,asAgg,part,an1 h3,AV.vals_get,h5]
 case extract x i=>
  split at h<;>first|cases h|skip
  rename_i l h1
  obtain⟨v,h2,h3⟩:=cn9.1 h
  cases h3
  simp[Instr.extract,hg x af _ h1,AV.val,AV.vals_get,h2]
 case indexAddr t x ix=>
  split at h<;>first|cases h|skip
  ·rename_i id k i h1 h2
   split at h<;>first|cases h|skip
   rename_i d n h3 h4
   split at h<;>first|cases h|skip
   rename_i hn
   subst hn
   simp only[x6]at ho
   obtain⟨e',h5,h6⟩:=Option.bind_eq_some_iff.1 h4
   obtain⟨a,cap,hr,_,_,hc⟩:=M.sliceAt h3
   obtain⟨b,off,rfl,_⟩:=hc i.toNat al
   have hx:=hg x af _ h1
   have hi:=hg ix af _ h2
   simp only[AV.val]at hx hi
   rw[hr]at hx
   simp[Instr.indexAt,hx,hi,asIntOf,run_underlying (Z7 h5),F8 h6,ho.1,ho.2.1,AV.val,hr,E9,aE0,Addr.add]
  rename_i id k i h1 h2
  split at h<;>first|cases h|skip
  rename_i d n h3 h4
  split at h<;>first|cases h|skip
  rename_i hn
  subst hn
  simp only[x6]at ho
  obtain⟨e',h5,h6⟩:=Option.bind_eq_some_iff.1 h4
  obtain⟨e2,xs,S',_,k1,_⟩:=(M.treeAt h3).1
  rcases k1.2 with⟨_,k2⟩|⟨b,cap,cur,hr,_⟩
  ·exfalso;omega
  have hx:=hg x af _ h1
  have hi:=hg ix af _ h2
  simp only[AV.val]at hx hi
  rw[hr]at hx
  simp[Instr.indexAt,hx,hi,asIntOf,run_underlying (Z7 h5),F8 h6,ho.1,ho.2.1,AV.val,hr,aE0,Addr.add]
  intro h0;exact h0.symm
 case index t x ix=>
  split at h<;>first|cases h|skip
  rename_i s k i h1 h2
  split at h<;>first|cases h|skip
  rename_i h3
  simp only[x6]at ho
  have hx:=hg x af _ h1
  have hi:=hg ix af _ h2
  simp only[AV.val]at hx hi
  have hlt:i.toNat<s.size:=al
  simp[Instr.index,hx,hi,asIntOf,run_underlying h3,ho.1,AV.val,hlt]
  rfl
 case convert s d x=>
  split at h<;>first|cases h|skip
  ·rename_i k n h1
   split at h<;>first|cases h|skip
   rename_i k' h2 h3
   simp only[x6]at ho
   obtain⟨ds,hds⟩:=cr7.1 h2
   have hx:=hg x af _ h1
   simp only[AV.val]at hx
   cases ds<;>simp[convert,hx,run_underlying hds,run_underlying h3,Conv.intToInt,ho.1,AV.val]
  rename_i str h1
  split at h<;>first|cases h|skip
  rename_i h2 h3
  obtain⟨ds,hds⟩:=cr7.1 h2
  have hx:=hg x af _ h1
  simp only[AV.val]at hx
  cases ds<;>simp[convert,hx,run_underlying hds,run_underlying h3,AV.val]
 case makeFunc fn first cap=>
  cases fn<;>simp only[ac6]at h<;>first|cases h|skip
  rename_i f
  split at h
  ·rename_i hf
   obtain⟨l,h1,h2⟩:=cn9.1 h
   cases h2
   have hf':first= #[]:=by simpa using hf
   subst hf'
   have:=an4 (ρ:=ρ) (g:=g) (fun x hx v hv=>hg x (by simp[Op.operands];simpa using hx) v hv) h1
   simp only[Instr.makeFunc,AV.val, <-this]
   have:Array.map g cap=(List.map g cap.toList).toArray:=by apply Array.ext';simp
   simp[this]
  split at h<;>first|cases h|skip
  rename_i hf
  obtain⟨l,h1,h2⟩:=cn9.1 h
  cases h2
  have hf':cap= #[]:=by simpa using hf
  subst hf'
  have:=an4 (ρ:=ρ) (g:=g) (fun x hx v hv=>hg x (by simp[Op.operands];simpa using hx) v hv) h1
  simp only[Instr.makeFunc,AV.val, <-this]
  have:Array.map g first=(List.map g first.toList).toArray:=by apply Array.ext';simp
  simp[this]
 case build t parts=>
  split at h<;>first|cases h|skip
  rename_i z fs h1 h2
  split at h<;>first|cases h|skip
  rename_i places hpl
  obtain⟨l,h3,h4⟩:=cn9.1 h
  cases h4
  obtain⟨it,hit,hz⟩:∃it,P.info? t=some it/\it.zero=some z:=by
   unfold L7 at h1
   exact Option.bind_eq_some_iff.1 h1
  have hb:P.built t (parts.map fun(i,x)=>(i,g x)).toList=some (AV.vals ρ l).toArray:=by
   unfold Program.built
   simp only[hit,h2,hz,hpl]
   have h5:=bq5 M h2 (e:=e) (g:=g) (places:=places.toArray) (fun i off ft n k1 k2=>by
    obtain⟨fs',x,m1,m2,m3,m4⟩:=bh4 k1
    rw[h2]at m1;cases m1
    obtain⟨y,n1,n2⟩:=cn9.1 k2
    have:=a66 hpl (i:=i) (x:=x) (y:=(off,n)) (by simpa using m2) (by simp[m4,n1,m3,n2])
    simpa using this) parts.toList _ l (fun p hp v hv=>hg p.2 (by simp[Op.operands];exact⟨p.1,by simpa using hp⟩) v hv) h3
   rw[ac2]at h5
   rw[<-h5]
   simp
  rw[Sem.run_bind,run_build w t _ _ hb]
  simp[AV.val]
 case call c=>
  obtain⟨callee,args,argTypes⟩:=c
  cases callee<;>(try simp only[ac6]at h)<;>first|cases h|skip
  rename_i b
  cases b<;>(try simp only[ac6]at h)<;>first|cases h|skip
  split at h<;>first|cases h|skip
  rename_i x t hx ht
  have hx':args= #[x]:=by apply Array.ext';simpa using hx
  have ht':argTypes= #[t]:=by apply Array.ext';simpa using ht
  subst hx';subst ht'
  split at h<;>first|cases h|skip
  ·rename_i id e' h1 h2
   obtain⟨d,h3,h4⟩:=cn9.1 h
   cases h4
   obtain⟨a,cap,hr,_⟩:=M.sliceAt h3
   have hxx:=hg x (by simp[Op.operands,Call.operands]) _ h1
   simp only[AV.val]at hxx
   rw[hr]at hxx
   simp[resolve,invoke,builtin,hxx,Builtin.len_,run_underlying h2,AV.val,goInt]
  ·rename_i a n cap e' h1 h2
   have hxx:=hg x (by simp[Op.operands,Call.operands]) _ h1
   simp only[AV.val]at hxx
   simp[resolve,invoke,builtin,hxx,Builtin.len_,run_underlying h2,AV.val,goInt]
  ·rename_i str h1 h2
   have hxx:=hg x (by simp[Op.operands,Call.operands]) _ h1
   simp only[AV.val]at hxx
   simp[resolve,invoke,builtin,hxx,Builtin.len_,run_underlying h2,AV.val,goInt]
  rename_i id e' h1 h2
  obtain⟨d,h3,h4⟩:=cn9.1 h
  cases h4
  obtain⟨a,cap,hr⟩:=aI2 (M.treeAt h3).1
  have hxx:=hg x (by simp[Op.operands,Call.operands]) _ h1
  simp only[AV.val]at hxx
  rw[hr]at hxx
  simp[resolve,invoke,builtin,hxx,Builtin.len_,run_underlying h2,AV.val,goInt]
end
structure Tr where
 new:List (Nat×It)
 made:List Nat
 res:AV
 obs:List Prop
def bb1(P:Program)(t:TypeId)(l:List AV):Option AV:=
 match aB5 P t with
 |some true=>if Z3 P t=some l.length then some (.agg l)else none
 |some false=>match l with
  |[x]=>some x
  |_=>none
 |none=>none
def aB4(P:Program)(t:TypeId):Nat:=match aB5 P t with
 |some true=>(Z3 P t).getD 0
 |_=>1
def bq3(P:Program)(t:TypeId):Bool:=match aB5 P t with
 |some false=>true
 |_=>false
def a52(P:Program)(t:TypeId)(sz j:Nat):Bool:=natEq sz 1&&(natEq j 0&&(natEq (aB4 P t) 1&&bq3 P t))
def aZ5(P:Program)(S:Nat->It)(id:Nat)(t:TypeId):AV->Option Tr
 |.ptr a off=>match S a with
  |.box cs=>(bb1 P t ((cs.drop off).take (aB4 P t))).map fun r=>⟨[],[],r,[]⟩
  |_=>none
 | .ea a i j sz => match itD (S a) with
  | some d =>
   if sz=d.sz then
    (bb1 P t (xav (((d.elem i).drop j).take (aB4 P t)) id)).map fun r=>⟨X9 (((d.elem i).drop j).take (aB4 P t)) id,(X9 (((d.elem i).drop j).take (aB4 P t)) id).map (·.1),r,[i<d.len]⟩
   else none
  |none=>match S a with
   |.tree (.rows l)=>if a52 P t sz j then some ⟨[(id,.row 3 (.ints (l.getD i []))),(a,.hole id i l)],[id],.ref id,[i<l.length]⟩else none
   |_=>none
 |_=>none
def D.empty:D->D
 |.ints _=>.ints []
 |.bools _=>.bools []
 |.bytes _=>.bytes []
 |.strs _=>.strs []
 |.instrs _=>.instrs []
 |.events _=>.events []
 |.rows _=>.rows []
 |.brows _=>.brows []
 |.exprs _=>.exprs []
 |.stmts _=>.stmts []
def D.putX:D->Nat->List X->Option D
 |.ints l,i,[.v (.int .i64 n)]=>some (.ints (l.set i n))
 |.bools l,i,[.v (.bool b)]=>some (.bools (l.set i b))
 |.strs l,i,[.v (.string s)]=>some (.strs (l.set i s))
 |.instrs l,i,[.v (.int .i64 o),.v (.int .i64 a),.v (.int .i64 b),.v (.int .i64 c),.v (.int .i64 d)]=>some (.instrs (l.set i ⟨o,a,b,c,d⟩))
 |.events l,i,[.v (.int .i64 a),.v (.int .i64 b)]=>some (.events (l.set i (a,b)))
 |.rows l,i,[.sl (.ints r)]=>some (.rows (l.set i r))
 |.brows l,i,[.sl (.bools r)]=>some (.brows (l.set i r))
 |.exprs l,i,[.v (.int .i64 a),.v (.int .i64 b),.sl (.exprs x)]=>some (.exprs (l.set i ⟨a,b,x⟩))
 |.stmts l,i,[.v (.int .i64 a),.v (.int .i64 b),.v (.int .i64 c),.v (.int .i64 d),.sl (.exprs x),.v (.int .i64 e),.v (.int .i64 f),.sl (.exprs y),.v (.int .i64 g),.sl (.stmts z),.sl (.stmts u)]=>some (.stmts (l.set i ⟨a,b,⟨c,d,x⟩,⟨e,f,y⟩,g,z,u⟩))
 |_,_,_=>none
def af9(S:Nat->It):List X->List AV->Option (List X)
 |[],[]=>some []
 |.v _::r,.v x::s=>(af9 S r s).map (.v x:: ·)
 | .sl d0 :: r, y :: s => match y with
  |.ref id=>match S id with
   |.dat d=>(af9 S r s).map (.sl d:: ·)
   |_=>none
  |.v (.slice none 0 0)=>(af9 S r s).map (.sl d0.empty:: ·)
  |_=>none
 |_,_=>none
def c6.putI(e:c6)(n:Int):Nat->Option c6
 |0=>some ⟨n,e.value,e.kids⟩
 |1=>some ⟨e.kind,n,e.kids⟩
 |_=>none
def c5.putI(s:c5)(n:Int):Nat->Option c5
 |0=>some ⟨n,s.target,s.index,s.value,s.count,s.body,s.els⟩
 |1=>some ⟨s.kind,n,s.index,s.value,s.count,s.body,s.els⟩
 |2=>some ⟨s.kind,s.target,⟨n,s.index.value,s.index.kids⟩,s.value,s.count,s.body,s.els⟩
 |3=>some ⟨s.kind,s.target,⟨s.index.kind,n,s.index.kids⟩,s.value,s.count,s.body,s.els⟩
 |5=>some ⟨s.kind,s.target,s.index,⟨n,s.value.value,s.value.kids⟩,s.count,s.body,s.els⟩
 |6=>some ⟨s.kind,s.target,s.index,⟨s.value.kind,n,s.value.kids⟩,s.count,s.body,s.els⟩
 |8=>some ⟨s.kind,s.target,s.index,s.value,n,s.body,s.els⟩
 |_=>none
def D.putI(i j:Nat)(n:Int):D->Option D
 |.exprs l=>((l.getD i cm7).putI n j).map fun e=>.exprs (l.set i e)
 |.stmts l=>((l.getD i cm7).putI n j).map fun s=>.stmts (l.set i s)
 |_=>none
def ae1(P:Program)(S:Nat->It)(t:TypeId)(v:AV):AV->Option Tr
 |.ptr a off=>match S a with
  |.box cs=>if aD5 S v&&decide (Z3 P t=some v.cells.length)&&decide (off+v.cells.length<=cs.length)then some ⟨[(a,.box (ar4 cs off v.cells))],[],.v undef,[]⟩else none
  |_=>none
 | .ea a i j sz => match S a with
  | .row e d => if aD5 S v && decide (Z3 P t = some v.cells.length) && decide (sz = d.sz) && decide (j + v.cells.length <= d.sz) then
    match af9 S (((d.elem i).drop j).take v.cells.length) v.cells with
    |some xs=>(d.putX i (ar4 (d.elem i) j xs)).map fun d'=>⟨[(a,.row e d')],[],.v undef,[i<d.len]⟩
    |none=>none
   else none
  |.tree d=>match v with
   |.v (.int .i64 n)=>if decide (Z3 P t=some 1)&&decide (sz=d.sz)then(d.putI i j n).map fun d'=>⟨[(a,.tree d')],[],.v undef,[i<d.len]⟩else none
   |_=>none
  |_=>none
 |_=>none
def bg1(S:Nat->It)(id:Nat)(v:AV):Option Tr:=
 if aD5 S v then some ⟨[(id,.box v.cells)],[id],.ptr id 0,[]⟩else none
section
variable{P:Program}{ι:Type}{φ ψ:Nat->Prop}{w0 w w':World}{F:ι->Rs}{ρ:Nat->Value}{S:Nat->It}
def K7(φ ψ:Nat->Prop)(w0:World)(F:ι->Rs)(ρ:Nat->Value)(S:Nat->It)(t:Tr)(v:Value)(w':World):Prop:=
 ∃ρ',D4 t.made ρ ρ'/\k8 φ ψ w0 w' (n6 F ρ' (n5 S t.new))/\v=t.res.val ρ'
theorem ap1{t:TypeId}{l:List AV}{r:AV}(h:bb1 P t l=some r)(a:Addr)(hc:∀j u,(AV.vals ρ l)[j]? =some u->w.cell? (a.add j)=some u):(loadVar t a).run P w=.ok (r.val ρ) w:=by
 unfold bb1 at h
 unfold loadVar
 split at h
 ·rename_i ha
  split at h
  ·rename_i hs
   cases h
   have hl:l.length=(AV.vals ρ l).length:=(AV.vals_length ρ l).symm
   have:=run_loadCells_list (P:=P) (w:=w) a (AV.vals ρ l) hc
   rw[AV.vals_length]at this
   simp[an1 ha,F8 hs,this,AV.val]
  cases h
 ·rename_i ha
  split at h<;>first|cases h|skip
  rename_i x
  have h0:=hc 0 (r.val ρ) (by simp[AV.vals])
  have e:a.add 0=a:=by simp[Addr.add]
  rw[e]at h0
  simp[an1 ha,h0]
 cases h
theorem bW7{d:D}{φ:Nat->Prop}{b off i:Nat}(h:∀j x,(d.elem i)[j]? =some x->∃u,w.cell? ⟨b,off+(i*d.sz+j),none⟩=some u/\XH w φ x u):∀(n j:Nat),∃us,XHs w φ (((d.elem i).drop j).take n) us/\∀k u,us[k]? =some u->w.cell? ⟨b,off+(i*d.sz+(j+k)),none⟩=some u:=by
 intro n
 induction n with
 |zero=>intro j;exact⟨[],by simp[XHs],ao⟩
 | succ n ih =>
  intro j
  cases hx:(d.elem i)[j]? with
  | none =>
   have hl:(d.elem i).drop j=[]:=by
    rw[List.drop_eq_nil_iff];exact List.getElem?_eq_none_iff.1 hx
   exact⟨[],by simp[hl,XHs],ao⟩
  | some x =>
   obtain⟨u,h1,h2⟩:=h j x hx
   obtain⟨us,h3,h4⟩:=ih (j+1)
   have hl:=(co0.1 hx)
   refine⟨u::us,?_,fun k u' hk=>?_⟩
   ·rw[List.drop_eq_getElem_cons hl.1,List.take_succ_cons,hl.2]
    exact⟨h2,h3⟩
   cases k with
   |zero=>simp at hk;subst hk;exact h1
   |succ k=>
    have:=h4 k u' (by simpa using hk)
    rw[show j+(k+1)=j+1+k by omega];exact this
theorem k8.re{κ:Type}{L L':κ->Rs}(M:k8 φ ψ w0 w L)(hb:∀k b,(L' k).blk b->∃j,(L j).blk b)(hd:∀i j g,i≠j->(L' i).blk g->¬(L' j).blk g)(h:∀k,L' k=L k\/∀φ',(L' k).holds w φ'):k8 φ ψ w0 w L':=by
 have hfr:∀b,FrF φ L b->FrF φ L' b:=fun b hf=>⟨hf.1,fun k hk=>let⟨j,hj⟩:=hb k b hk;hf.2 j hj⟩
 refine⟨M.kept,M.fresh,M.env,fun k=>?_,hd,fun i b hi=>let⟨j,hj⟩:=hb i b hi;M.ge j b hj,fun i b hi=>let⟨j,hj⟩:=hb i b hi;M.ph j b hj⟩
 rcases h k with e|h1
 ·rw[e];exact Rs.keep (M.holds k) (Agr.mono fun b _ hf=>hfr b hf) fun _ _=>rfl
 exact h1 _
theorem RW.ints'{φ:Nat->Prop}(r:List Int):RW w φ (.ints r) (ints r):=fun i hi j x hx=>by
 obtain⟨y,rfl,h⟩:=av9 r (Value.int .i64) 0 hi hx
 exact⟨y,h,rfl⟩
theorem k8.takeRow(M:k8 φ ψ w0 w (n6 F ρ S)){a id i:Nat}{l:List (List Int)}(hS:S a=.tree (.rows l))(hid:S id=.none)(hi:Inv S ρ [id])(hl:i<l.length):
  ∃(u:Value) (ad:Addr) (cap:Nat),E9 (ρ a)=.slice (some ad) l.length cap/\ad.spot=none/\w.cell? ⟨ad.block,ad.off+i,none⟩=some u/\
   k8 φ ψ w0 w (n6 F (fun j=>if j=id then u else ρ j) (n5 S [(id,.row 3 (.ints (l.getD i []))),(a,.hole id i l)])):=by
 obtain⟨hT,hlt⟩:=M.treeAt (id:=a) (d:=.rows l) (by rw[hS];rfl)
 obtain⟨u,ad,cap,hO,hr,hsub,hv,hc,hn⟩:=hT.takeRow hl
 refine⟨u,ad,cap,hv,hn,hc,?_⟩
 have hne:a≠id:=fun e=>by rw[e,hid]at hS;cases hS
 have ha:D4 [id] ρ (fun j=>if j=id then u else ρ j):=fun j hj=>by
  have:j≠id:=by simpa using hj
  simp[this]
 have l1:n6 F (fun j=>if j=id then u else ρ j) (n5 S [(id,.row 3 (.ints (l.getD i []))),(a,.hole id i l)]) (.inr id)=.row 3 1 u (l.getD i []).length fun xs w φ=>RW w φ (.ints (l.getD i [])) xs:=by
  simp only[n6,n5,if_true,It.res,D.sz,D.len]
 have l2:n6 F (fun j=>if j=id then u else ρ j) (n5 S [(id,.row 3 (.ints (l.getD i []))),(a,.hole id i l)]) (.inr a)=.own (fun b=>E3 (ρ a) b/\u.ownBlock≠some b) fun w=>aU8 w (E3 (ρ a)) i l u (E9 (ρ a)):=by
  simp only[n6,n5,if_neg hne,if_true,It.res]
 have l3:∀k,k≠ .inr id->k≠ .inr a->n6 F (fun j=>if j=id then u else ρ j) (n5 S [(id,.row 3 (.ints (l.getD i []))),(a,.hole id i l)]) k=n6 F ρ S k:=fun k h1 h2=>by
  cases k with
  |inl q=>rfl
  |inr j=>
   have e1:j≠id:=fun e=>h1 (by rw[e])
   have e2:j≠a:=fun e=>h2 (by rw[e])
   simp only[n6,n5,if_neg e1,if_neg e2]
   exact hi _ ha j
 have l4:∀b,(n6 F ρ S (.inr a)).blk b↔E3 (ρ a) b:=fun b=>by simp only[n6,hS,It.res,Rs.blk]
 generalize n6 F (fun j=>if j=id then u else ρ j) (n5 S [(id,.row 3 (.ints (l.getD i []))),(a,.hole id i l)])=L' at*
 have org:∀k b,(L' k).blk b->(k=.inr id\/k=.inr a)/\E3 (ρ a) b\/(k≠ .inr id/\k≠ .inr a)/\(n6 F ρ S k).blk b:=fun k b hb=>by
  by_cases e1:k=.inr id
  ·subst e1
   rw[l1]at hb
   exact .inl ⟨.inl rfl,hsub b hb⟩
  by_cases e2:k=.inr a
  ·subst e2
   rw[l2]at hb
   exact .inl ⟨.inr rfl,hb.1⟩
  rw[l3 k e1 e2]at hb
  exact .inr ⟨⟨e1,e2⟩,hb⟩
 refine M.re (fun k b hb=>?_) (fun p q g hpq h1 h2=>?_) fun k=>?_
 ·rcases org k b hb with⟨_,h⟩|⟨_,h⟩
  ·exact⟨.inr a,(l4 b).2 h⟩
  exact⟨k,h⟩
 ·rcases org p g h1 with⟨e1,f1⟩|⟨e1,f1⟩
  ·rcases org q g h2 with⟨e2,f2⟩|⟨e2,f2⟩
   ·rcases e1 with rfl|rfl<;>rcases e2 with rfl|rfl
    ·exact hpq rfl
    ·rw[l1]at h1;rw[l2]at h2;exact h2.2 h1
    ·rw[l2]at h1;rw[l1]at h2;exact h1.2 h2
    exact hpq rfl
   exact M.dis (.inr a) q g (fun e=>e2.2 e.symm) ((l4 g).2 f1) f2
  rcases org q g h2 with⟨e2,f2⟩|⟨e2,f2⟩
  ·exact M.dis p (.inr a) g e1.2 f1 ((l4 g).2 f2)
  exact M.dis p q g hpq f1 f2
 by_cases e1:k=.inr id
 ·subst e1
  right;intro φ';rw[l1]
  exact⟨fun xs=>RW.nice _ xs,_,hr,RW.ints' _⟩
 by_cases e2:k=.inr a
 ·subst e2
  right;intro φ';rw[l2]
  exact⟨fun _ _ h hs=>h.same hs,hO,fun b hb=>hlt b hb.1⟩
 exact .inl (l3 k e1 e2)
theorem bP4(M:k8 φ ψ w0 w (n6 F ρ S)){o:Oper}{g:Operand->Value}{t:TypeId}{x:Operand}(hop:o.op=.load t x){av:AV}(hx:g x=av.val ρ){id:Nat}{r:Tr}(h:aZ5 P S id t av=some r)(ho:x6 r.obs)(hmk:∀j∈r.made,S j=.none)(hi:Inv S ρ r.made):
  N5 P o g w (K7 φ ψ w0 F ρ S r):=by
 cases av<;>simp only[aZ5]at h<;>first|cases h|skip
 ·rename_i a off
  split at h<;>first|cases h|skip
  rename_i cs hS
  obtain⟨v,h1,h2⟩:=cn9.1 h
  cases h2
  refine .inl ⟨v.val ρ,w,?_,ρ,D4.refl _ _,M,rfl⟩
  have hb:=M.boxAt hS
  have hl:=ap1 (P:=P) (ρ:=ρ) (w:=w) h1 ⟨U3 (ρ a),off,none⟩ (fun j u hj=>by
   rw[AV.vals_take,AV.vals_drop]at hj
   have hadd:(⟨U3 (ρ a),off,none⟩:Addr).add j=⟨U3 (ρ a),off+j,none⟩:=by unfold Addr.add;split<;>simp_all
   rw[hadd,hb.cell]
   rw[List.getElem?_take]at hj
   split at hj
   ·rw[List.getElem?_drop]at hj;exact hj
   cases hj)
  simp[execOp,hop,hx,AV.val,Instr.loadAt,Instr.sureAddr,hl]
 rename_i a i j sz
 split at h
 case h_2=>
  split at h<;>first|cases h|skip
  rename_i l hS
  split at h<;>first|cases h|skip
  rename_i hc
  simp only[a52,cm9,natEq,beq_iff_eq]at hc
  obtain⟨hsz,hj0,-,hta⟩:=hc
  subst hsz
  subst hj0
  have hta:aB5 P t=some false:=by
   unfold bq3 at hta
   revert hta
   cases aB5 P t with
   |none=>intro h;cases h
   |some b=>cases b<;>intro h<;>first|rfl|cases h
  simp only[x6]at ho
  obtain⟨u,ad,cap,hv,hn,hcell,M'⟩:=M.takeRow hS (hmk id ao) hi ho.1
  obtain⟨bk,off,sub⟩:=ad
  cases hn
  refine .inl ⟨u,w,?_,_,fun k hk=>?_,M',?_⟩
  ·have h1:bb1 P t [.v u]=some (.v u):=by unfold bb1;rw[hta]
   have hl:=ap1 (P:=P) (ρ:=ρ) (w:=w) h1 ⟨bk,off+(i*1+0),none⟩ (fun k u' hk=>by
    cases k with
    |zero=>
     simp[AV.vals,AV.val]at hk
     subst hk
     have hadd:(⟨bk,off+(i*1+0),none⟩:Addr).add 0=⟨bk,off+i,none⟩:=by unfold Addr.add;split<;>simp_all
     rw[hadd];exact hcell
    |succ k=>simp[AV.vals]at hk)
   try simp only[AV.val]at hl
   simp[execOp,hop,hx,AV.val,Instr.loadAt,Instr.sureAddr,hv,aE0]at hl ⊢
   simp[hl]
  ·have:k≠id:=by simpa using hk
   simp[this]
  simp[AV.val]
 rename_i d hd
 split at h<;>first|cases h|skip
 rename_i hsz
 subst hsz
 obtain⟨v,h1,h2⟩:=cn9.1 h
 cases h2
 simp only[x6]at ho
 obtain⟨aa,cap,hr,_,_,hc⟩:=M.sliceAt hd
 obtain⟨b,off,rfl,hcc⟩:=hc i ho.1
 obtain⟨us,k1,k2⟩:=bW7 hcc (aB4 P t) j
 obtain⟨ρ',m1,m2,m3⟩:=M.dats _ us id k1 hmk hi
 refine .inl ⟨v.val ρ',w,?_,ρ',m1,m2,rfl⟩
 have hl:=ap1 (P:=P) (ρ:=ρ') (w:=w) h1 ⟨b,off+(i*d.sz+j),none⟩ (fun k u hk=>by
  rw[<-m3]at hk
  have hadd:(⟨b,off+(i*d.sz+j),none⟩:Addr).add k=⟨b,off+(i*d.sz+(j+k)),none⟩:=by unfold Addr.add;split<;>simp_all[Nat.add_assoc]
  rw[hadd];exact k2 k u hk)
 simp[execOp,hop,hx,AV.val,Instr.loadAt,Instr.sureAddr,hr,E9,aE0,hl]
theorem C6.setRow'{w:World}{b:Nat}{cs cs':List Value}{T:TypeId}(_h:w.heap[b]? =some (.cells cs.toArray T (0,0))):C6 (fun c=>¬c=b) w (w.setRow b cs'.toArray)/\D3 (w.setRow b cs'.toArray) b cs':=
 ⟨⟨rfl,rfl,rfl,ao,fun c _ hc=>setRow_other _ _ _ _ hc⟩,T,setRow_heap _ _ _ _ _ _ _h⟩
theorem au4{α:Type}:∀(us ys:List α) (p q:Nat),p+us.length<=ys.length->(ar4 ys p us)[q]? =if p<=q/\q<p+us.length then us[q-p]? else ys[q]?
 |[],ys,p,q,_=>by simp[ar4];intro h1 h2;omega
 | u :: r, ys, p, q, h => by
  simp only[cn6]at h
  simp only[ar4]
  rw[au4 r _ _ _ ah]
  by_cases h1:p+1<=q/\q<p+1+r.length
  ·rw[if_pos h1,if_pos ah]
   rw[show q-p=(q-(p+1))+1 by omega];simp
  rw[if_neg h1]
  by_cases h2:q=p
  ·subst h2
   rw[if_pos ao]
   rw[List.getElem?_set_self al];simp
  rw[if_neg ah,List.getElem?_set_ne al]
theorem ay4:∀(us ys:List Value) (p:Nat),setFrom ys p us=ar4 ys p us
 |[],_,_=>rfl
 |u::r,ys,p=>by simp only[setFrom,ar4];exact ay4 r _ _
theorem ac5:∀(us ys:List Value) (p k:Nat),(setFrom ys p us).take k=setFrom (ys.take k) p us
 |[],_,_,_=>rfl
 |u::r,ys,p,k=>by simp only[setFrom];rw[ac5 r,List.take_set]
theorem R7{α:Type}(f:α->List X){l:List α}{i:Nat}{y z:α}{xs:List X}(h:f y=xs):(i<l.length->f ((l.set i y).getD i z)=xs)/\∀k,k≠i->f ((l.set i y).getD k z)=f (l.getD k z):=
 ⟨fun hi=>by rw[cn2,List.getElem?_set_self hi];exact h,fun k hk=>by rw[cn2,List.getElem?_set_ne fun e=>hk e.symm, <-cn2]⟩
theorem D.putX_ok{d d':D}{i:Nat}{xs:List X}(h:d.putX i xs=some d'):d'.len=d.len/\d'.sz=d.sz/\(i<d.len->d'.elem i=xs)/\∀k,k≠i->d'.elem k=d.elem k:=by
 unfold D.putX at h
 split at h<;>first|cases h|skip
 ·exact⟨by simp[D.len],rfl,R7 (fun n=>[X.v (.int .i64 n)]) rfl⟩
 ·exact⟨by simp[D.len],rfl,R7 (fun n=>[X.v (.bool n)]) rfl⟩
 ·exact⟨by simp[D.len],rfl,R7 (fun n=>[X.v (.string n)]) rfl⟩
 ·exact⟨by simp[D.len],rfl,R7 bg5 rfl⟩
 ·exact⟨by simp[D.len],rfl,R7 as6 rfl⟩
 ·exact⟨by simp[D.len],rfl,R7 (fun r=>[X.sl (.ints r)]) rfl⟩
 ·exact⟨by simp[D.len],rfl,R7 (fun r=>[X.sl (.bools r)]) rfl⟩
 ·exact⟨by simp[D.len],rfl,R7 aN2 rfl⟩
 exact⟨by simp[D.len],rfl,R7 aI6 rfl⟩
theorem D.empty_len(d:D):d.empty.len=0:=by cases d<;>rfl
theorem RD.empty(w:World)(φ:Nat->Prop)(d:D):RD w φ d.empty (.slice none 0 0):=by
 refine RD.make (xs:=[]) ?_ fun i hi=>by rw[D.empty_len]at hi;omega
 rw[D.empty_len];exact A4.nil _ _ _
theorem aF2(M:k8 φ ψ w0 w (n6 F ρ S)):∀{old:List X} {l:List AV} {xs:List X},af9 S old l=some xs->XHs w (FrF φ (n6 F ρ S)) xs (AV.vals ρ l)
 |[],[],xs,h=>by simp only[af9,Option.some.injEq]at h;subst h;trivial
 |.v y::r,.v x::s,xs,h=>by
  simp only[af9,cn9]at h
  obtain⟨ys,h1,rfl⟩:=h
  exact⟨rfl,aF2 M h1⟩
 | .sl d0 :: r, y :: s, xs, h => by
  simp only[af9]at h
  split at h
  ·split at h<;>first|cases h|skip
   rename_i id _ d hS
   obtain⟨ys,h1,rfl⟩:=cn9.1 h
   exact⟨M.datAt hS,aF2 M h1⟩
  ·obtain⟨ys,h1,rfl⟩:=cn9.1 h
   exact⟨RD.empty _ _ _,aF2 M h1⟩
  cases h
 |[],_::_,xs,h=>by simp[af9]at h
 |.v _::_,[],xs,h=>by simp[af9]at h
 |.sl _::_,[],xs,h=>by simp[af9]at h
 |.v _::_,.ptr _ _::_,xs,h=>by simp[af9]at h
 |.v _::_,.ea _ _ _ _::_,xs,h=>by simp[af9]at h
 |.v _::_,.ref _::_,xs,h=>by simp[af9]at h
 |.v _::_,.agg _::_,xs,h=>by simp[af9]at h
 |.v _::_,.tup _::_,xs,h=>by simp[af9]at h
 |.v _::_,.fn _ _::_,xs,h=>by simp[af9]at h
 |.v _::_,.bm _ _::_,xs,h=>by simp[af9]at h
 |.v _::_,.tref _::_,xs,h=>by simp[af9]at h
theorem XHs.get{φ:Nat->Prop}:∀{xs:List X} {us:List Value},XHs w φ xs us->xs.length=us.length/\∀(j:Nat) x,xs[j]? =some x->∃u,us[j]? =some u/\XH w φ x u
 |[],[],_=>⟨rfl,fun j x h=>by simp at h⟩
 |x::r,u::s,h=>by
  obtain⟨h1,h2⟩:=XHs.get h.2
  refine⟨by simp[h1],fun j y hj=>?_⟩
  cases j with
  |zero=>simp at hj;subst hj;exact⟨u,rfl,h.1⟩
  |succ j=>simpa using h2 j y (by simpa using hj)
 |[],_::_,h=>h.elim
 |_::_,[],h=>by cases h
theorem RW.put{φ:Nat->Prop}{d d':D}{xs us:List Value}{i j:Nat}{ys:List X}(hx:RW w φ d xs)(hl:xs.length=d.len*d.sz)(hi:i<d.len)(hj:j+us.length<=d.sz)(hy:XHs w φ ys us)(h:d.putX i (ar4 (d.elem i) j ys)=some d'):RW w φ d' (setFrom xs (i*d.sz+j) us):=by
 obtain⟨h1,h2,h3,h4⟩:=D.putX_ok h
 obtain⟨g1,g2⟩:=hy.get
 have hfit:i*d.sz+j+us.length<=xs.length:=by
  have:(i+1)*d.sz<=d.len*d.sz:=cr3 _ hi
  rw[cq7]at this
  omega
 intro k hk q x hq
 rw[ay4,h2,au4 _ _ _ _ hfit]
 by_cases e:k=i
 ·subst e
  rw[h3 hi,au4 _ _ _ _ (by rw[D.elem_len,g1];exact hj)]at hq
  by_cases hr:j<=q/\q<j+ys.length
  ·rw[if_pos hr]at hq
   rw[if_pos al]
   obtain⟨u,k1,k2⟩:=g2 _ x hq
   exact⟨u,by rw[show k*d.sz+q-(k*d.sz+j)=q-j by omega];exact k1,k2⟩
  rw[if_neg hr]at hq
  rw[if_neg al]
  exact hx k hi q x hq
 rw[h4 k e]at hq
 have hqs:q<d.sz:=by rw[<-D.elem_len d k];exact(co0.1 hq).1
 rw[if_neg]
 ·exact hx k al q x hq
 rintro⟨a1,a2⟩
 rcases Nat.lt_or_gt_of_ne e with h|h
 ·have:(k+1)*d.sz<=i*d.sz:=cr3 _ h
  rw[cq7]at this;omega
 have:(i+1)*d.sz<=k*d.sz:=cr3 _ h
 rw[cq7]at this;omega
theorem c6.putI_ok{w:World}{e e':c6}{n:Int}{j:Nat}{S:Nat->Prop}{c:List Value}(h:e.putI n j=some e')(hO:F3 w e S c):j<3/\F3 w e' S (c.set j (.int .i64 n)):=by
 obtain⟨kv,rfl,hk⟩:=(F3.iff _ _ _).1 hO
 unfold c6.putI at h
 split at h<;>first|cases h|skip
 ·exact⟨al,(F3.iff _ _ _).2 ⟨kv,rfl,hk⟩⟩
 exact⟨al,(F3.iff _ _ _).2 ⟨kv,rfl,hk⟩⟩
theorem c5.putI_ok{w:World}{s s':c5}{n:Int}{j:Nat}{S:Nat->Prop}{c:List Value}(h:s.putI n j=some s')(hO:H2 w s S c):j<11/\H2 w s' S (c.set j (.int .i64 n)):=by
 obtain⟨iv,vv,bv,ev,Si,Sv,Sb,Se,rfl,hd,h1,h2,h3,h4⟩:=(H2.iff _ _ _).1 hO
 unfold c5.putI at h
 split at h<;>first|cases h|skip
 all_goals exact⟨al,(H2.iff _ _ _).2 ⟨iv,vv,bv,ev,Si,Sv,Sb,Se,rfl,hd,h1,h2,h3,h4⟩⟩
theorem S7.putI{w w':World}{d d':D}{i j:Nat}{n:Int}{S:Nat->Prop}{xs:List Value}(hp:d.putI i j n=some d')(hi:i<d.len)(hxl:xs.length=d.len*d.sz)(h:S7 w d S xs)(hs:∀b,S b->b<w.heap.size->w'.heap[b]? =w.heap[b]?):d'.len=d.len/\d'.sz=d.sz/\ap7 d'=ap7 d/\j<d.sz/\S7 w' d' S (xs.set (i*d.sz+j) (.int .i64 n)):=by
 unfold D.putI at hp
 split at hp<;>first|cases hp|skip
 ·rename_i l
  obtain⟨e',h1,h2⟩:=cn9.1 hp
  cases h2
  have hi':i<l.length:=hi
  have hx:=s4.same _ _ _ (show s4 w l S xs from h) hs
  obtain⟨c,Sc,k1,k2,k3,k4⟩:=s4.focus hx i hi'
  rw[m6 hi']at h1
  obtain⟨p1,p2⟩:=c6.putI_ok h1 k1
  have hl:=k1.len
  have hlen:xs.length=l.length*3:=hxl
  refine⟨by simp[D.len],rfl,rfl,p1,?_⟩
  have:=k4 w' e' _ (fun b _ _ _=>rfl) p2
  have hfit:i*3+3<=xs.length:=by
   have:(i+1)*3<=l.length*3:=cr3 _ hi'
   rw[cq7]at this;omega
  have e:setFrom xs (i*3) (c.set j (.int .i64 n))=xs.set (i*3+j) (.int .i64 n):=by
   rw[<-aB6 _ (by rw[hl];exact hfit) (by rw[hl];exact p1),au6 (by rw[hl];exact hfit) (fun q hq=>k3 q (by rw[hl]at hq;exact hq))]
  rw[e]at this
  exact this
 rename_i l
 obtain⟨e',h1,h2⟩:=cn9.1 hp
 cases h2
 have hi':i<l.length:=hi
 have hx:=p8.same _ _ _ (show p8 w l S xs from h) hs
 obtain⟨c,Sc,k1,k2,k3,k4⟩:=p8.focus hx i hi'
 rw[m6 hi']at h1
 obtain⟨p1,p2⟩:=c5.putI_ok h1 k1
 have hl:=k1.len
 have hlen:xs.length=l.length*11:=hxl
 refine⟨by simp[D.len],rfl,rfl,p1,?_⟩
 have:=k4 w' e' _ (fun b _ _ _=>rfl) p2
 have hfit:i*11+11<=xs.length:=by
  have:(i+1)*11<=l.length*11:=cr3 _ hi'
  rw[cq7]at this;omega
 have e:setFrom xs (i*11) (c.set j (.int .i64 n))=xs.set (i*11+j) (.int .i64 n):=by
  rw[<-aB6 _ (by rw[hl];exact hfit) (by rw[hl];exact p1),au6 (by rw[hl];exact hfit) (fun q hq=>k3 q (by rw[hl]at hq;exact hq))]
 rw[e]at this
 exact this
theorem aX1(M:k8 φ ψ w0 w (n6 F ρ S)){o:Oper}{g:Operand->Value}{t:TypeId}{x y:Operand}(hop:o.op=.store t x y){a i j:Nat}{n:Int}{d d':D}(hx:g x=(AV.ea a i j d.sz).val ρ)(hy:g y=(AV.v (.int .i64 n)).val ρ)(k2:Z3 P t=some 1)(hS:S a=.tree d)(hd':d.putI i j n=some d')(hi:i<d.len):
  N5 P o g w (K7 φ ψ w0 F ρ S ⟨[(a,.tree d')],[],.v undef,[i<d.len]⟩):=by
 obtain⟨hT,hlt⟩:=M.treeAt (id:=a) (d:=d) (by rw[hS];rfl)
 obtain⟨e,xs,S',h0,h1,h2,h3,h4⟩:=hT
 have hown:=h1
 obtain⟨hxl,hform⟩:=hown
 rcases hform with⟨_,hn⟩|⟨b,cap,cur,hv,_,hb,hcap,hmax,hcs,htk⟩
 ·omega
 have hbS:E3 (ρ a) b/\¬S' b:=h2 b (by rw[hv];rfl)
 obtain⟨q1,q2,q3,q4,-⟩:=S7.putI hd' hi hxl h4 fun _ _ _=>rfl
 have hfit:i*d.sz+j+1<=d.len*d.sz:=by
  have:(i+1)*d.sz<=d.len*d.sz:=cr3 _ hi
  rw[cq7]at this
  omega
 have hcapsz:d.len*d.sz<=cap*d.sz:=cr3 _ hcap
 have hcur:i*d.sz+j+1<=cur.toList.length:=by
  have hc2:cur.toList.length=cap*d.sz:=by rw[Array.length_toList];exact hcs
  omega
 have hst:=run_storeCells_at (P:=P) b (i*d.sz+j) e [.int .i64 n] 0 cur w hb (by simpa using hcur) (fun u hu=>by rw[cq2.1 hu];rfl)
 simp only[Nat.add_zero]at hst
 rw[<-U9 _ _ _ (by simpa using hcur)]at hst
 have hrun:(execOp g o).run P w=.ok .skip (w.setRow b (setFrom cur.toList (i*d.sz+j) [.int .i64 n]).toArray):=by
  simp only[AV.val]at hx hy
  simp[execOp,hop,hx,hy,Instr.storeAt,Instr.sureAddr,storeVar,Value.cells,F8 k2,hv,aE0]
  rw[hst];rfl
 have hk:C6 (fun c=>¬((S a).res ρ a).blk c) w (w.setRow b (setFrom cur.toList (i*d.sz+j) [.int .i64 n]).toArray):=
  ⟨rfl,rfl,rfl,ao,fun c _ hc=>setRow_other _ _ _ _ fun e=>hc (by rw[hS,e];exact hbS.1)⟩
 have M1:k8 φ ψ w0 (w.setRow b (setFrom cur.toList (i*d.sz+j) [.int .i64 n]).toArray) (n6 F ρ (n5 S [(a,.tree d')])):=by
  refine M.one a _ [] (fun ρ' h j=>by rw[show ρ'=ρ from funext fun k=>h k ao]) (D4.refl _ _) hk (fun c hc=>.inl (by rw[hS];exact hc)) ?_
  simp only[It.res]
  refine⟨fun _ _ h hs=>h.same hs,⟨e,setFrom xs (i*d.sz+j) [.int .i64 n],S',by rw[q3,h0],?_,h2,h3,?_⟩,fun c hc=>by simpa using hlt c hc⟩
  ·rw[q1,q2]
   refine⟨by rw[J1,hxl],.inr ⟨b,cap,(setFrom cur.toList (i*d.sz+j) [.int .i64 n]).toArray,hv,cp5 _,setRow_heap _ _ _ _ _ _ hb,hcap,hmax,?_,?_⟩⟩
   ·simp[J1,hcs]
   rw[<-htk];exact ac5 _ _ _ _
  exact(S7.putI hd' hi hxl h4 fun c hc _=>setRow_other _ _ _ _ fun e=>hbS.2 (by rw[<-e];exact hc)).2.2.2.2
 exact .inr (.inl ⟨_,hrun,ρ,D4.refl _ _,M1,rfl⟩)
theorem a36(M:k8 φ ψ w0 w (n6 F ρ S)){o:Oper}{g:Operand->Value}{t:TypeId}{x y:Operand}(hop:o.op=.store t x y){a i j sz:Nat}{vv:AV}(hx:g x=(AV.ea a i j sz).val ρ)(hy:g y=vv.val ρ){r:Tr}(h:ae1 P S t vv (.ea a i j sz)=some r)(ho:x6 r.obs):
  N5 P o g w (K7 φ ψ w0 F ρ S r):=by
 simp only[ae1]at h
 split at h<;>first|cases h|skip
 case h_2 d hS=>
  split at h<;>first|cases h|skip
  rename_i n
  split at h
  case isFalse=>cases h
  rename_i hc
  simp only[cm9,decide_eq_true_eq]at hc
  obtain⟨k2,rfl⟩:=hc
  obtain⟨d',hd',hr⟩:=cn9.1 h
  subst hr
  simp only[x6]at ho
  exact aX1 M hop hx hy k2 hS hd' ho.1
 rename_i e d hS
 split at h
 case isFalse=>cases h
 rename_i hc
 simp only[cm9,decide_eq_true_eq]at hc
 obtain⟨⟨⟨k1,k2⟩,rfl⟩,k3⟩:=hc
 split at h<;>first|cases h|skip
 rename_i ys hys
 obtain⟨d',hd',hr⟩:=cn9.1 h
 subst hr
 simp only[x6]at ho
 have hi:=ho.1
 obtain⟨c1,c2⟩:=aa9 M k1
 obtain⟨xs,hown,hRW⟩:=M.rowAt hS
 have hXs:=aF2 M hys
 obtain⟨p1,p2,p3,p4⟩:=D.putX_ok hd'
 have hul:(AV.vals ρ vv.cells).length=vv.cells.length:=AV.vals_length _ _
 have hsz:0<d.sz:=by cases d<;>simp[D.sz]
 obtain⟨hxl,hform⟩:=hown
 rcases hform with⟨_,hn⟩|⟨b,cap,cur,hv,_,hb,hcap,hmax,hcs,htk⟩
 ·omega
 have hfit:i*d.sz+j+(AV.vals ρ vv.cells).length<=d.len*d.sz:=by
  have:(i+1)*d.sz<=d.len*d.sz:=cr3 _ hi
  rw[cq7]at this
  omega
 have hcapsz:d.len*d.sz<=cap*d.sz:=cr3 _ hcap
 have hcur:i*d.sz+j+(AV.vals ρ vv.cells).length<=cur.toList.length:=by
  have hc2:cur.toList.length=cap*d.sz:=by rw[Array.length_toList];exact hcs
  omega
 have hst:=run_storeCells_at (P:=P) b (i*d.sz+j) e (AV.vals ρ vv.cells) 0 cur w hb (by simpa using hcur) c2
 simp only[Nat.add_zero]at hst
 rw[<-U9 _ _ _ hcur]at hst
 have hrun:(execOp g o).run P w=.ok .skip (w.setRow b (setFrom cur.toList (i*d.sz+j) (AV.vals ρ vv.cells)).toArray):=by
  simp[execOp,hop,hx,hy,AV.val,Instr.storeAt,Instr.sureAddr,storeVar,c1,F8 k2,AV.vals_length,hv,E9,aE0]
  rw[hst];rfl
 have hblk:∀c,((S a).res ρ a).blk c↔c=b:=fun c=>by
  rw[hS];simp only[It.res,Rs.blk,hv,Value.ownBlock,Option.some.injEq];exact⟨fun h=>h.symm,fun h=>h.symm⟩
 have hk:C6 (fun c=>¬((S a).res ρ a).blk c) w (w.setRow b (setFrom cur.toList (i*d.sz+j) (AV.vals ρ vv.cells)).toArray):=
  ⟨rfl,rfl,rfl,ao,fun c _ hc=>setRow_other _ _ _ _ fun e=>hc ((hblk c).2 e)⟩
 have hfr:∀c,FrF φ (n6 F ρ S) c->FrF φ (n6 F ρ (n5 S [(a,.row e d')])) c:=fun c hc=>⟨hc.1,fun k hk'=>by
  cases k with
  |inl i=>exact hc.2 (.inl i) hk'
  | inr q =>
   by_cases eq:q=a
   ·subst eq
    simp only[n6,n5,if_true]at hk'
    refine hc.2 (.inr q) ?_
    simp only[n6]
    rw[hS];exact hk'
   simp only[n6,n5,if_neg eq]at hk'
   exact hc.2 (.inr q) hk'⟩
 have M1:k8 φ ψ w0 (w.setRow b (setFrom cur.toList (i*d.sz+j) (AV.vals ρ vv.cells)).toArray) (n6 F ρ (n5 S [(a,.row e d')])):=by
  refine M.one a _ [] (fun ρ' h j=>by rw[show ρ'=ρ from funext fun k=>h k ao]) (D4.refl _ _) hk (fun c hc=>.inl (by rw[hS];exact hc)) ?_
  simp only[It.res]
  refine⟨fun xs=>RW.nice d' xs,setFrom xs (i*d.sz+j) (AV.vals ρ vv.cells),?_,?_⟩
  ·rw[p1,p2]
   refine⟨by rw[J1,hxl],.inr ⟨b,cap,(setFrom cur.toList (i*d.sz+j) (AV.vals ρ vv.cells)).toArray,hv,cp5 _,setRow_heap _ _ _ _ _ _ hb,hcap,hmax,?_,?_⟩⟩
   ·simp[J1,hcs]
   rw[<-htk];exact ac5 _ _ _ _
  refine RW.nice d' _ _ _ _ _ ⟨hk.size,fun c hc hf=>⟨hfr c hf,hk.block c hc fun he=>hf.2 (.inr a) he⟩⟩ ?_
  exact RW.put hRW hxl hi (by rw[hul];exact k3) hXs hd'
 exact .inr (.inl ⟨_,hrun,ρ,D4.refl _ _,M1,rfl⟩)
theorem bz5(M:k8 φ ψ w0 w (n6 F ρ S)){o:Oper}{g:Operand->Value}{t:TypeId}{x y:Operand}(hop:o.op=.store t x y){av vv:AV}(hx:g x=av.val ρ)(hy:g y=vv.val ρ){r:Tr}(h:ae1 P S t vv av=some r)(ho:x6 r.obs):
  N5 P o g w (K7 φ ψ w0 F ρ S r):=by
 cases av
 case ea a i j sz=>exact a36 M hop hx hy h ho
 all_goals (simp only[ae1]at h)
 all_goals first|cases h|skip
 rename_i a off
 split at h<;>first|cases h|skip
 rename_i cs hS
 split at h
 case isFalse=>cases h
 rename_i hc
 simp only[cm9,decide_eq_true_eq]at hc
 obtain⟨⟨k1,k2⟩,k3⟩:=hc
 cases h
 obtain⟨c1,c2⟩:=aa9 M k1
 obtain⟨T,hb⟩:=M.boxAt hS
 have hst:=run_storeCells_at (P:=P) (U3 (ρ a)) off T (AV.vals ρ vv.cells) 0 _ w hb (by simp[AV.vals_length];omega) c2
 obtain⟨q1,q2⟩:=C6.setRow' (cs':=setFrom (AV.vals ρ cs) off (AV.vals ρ vv.cells)) hb
 simp only[Nat.add_zero]at hst
 rw[<-U9 _ _ _ (by simp[AV.vals_length];omega)]at hst
 have hrun:(execOp g o).run P w=.ok .skip (w.setRow (U3 (ρ a)) (setFrom (AV.vals ρ cs) off (AV.vals ρ vv.cells)).toArray):=by
  simp[execOp,hop,hx,hy,AV.val,Instr.storeAt,Instr.sureAddr,storeVar,c1,F8 k2,AV.vals_length]
  rw[hst];rfl
 have M1:k8 φ ψ w0 (w.setRow (U3 (ρ a)) (setFrom (AV.vals ρ cs) off (AV.vals ρ vv.cells)).toArray) (n6 F ρ (n5 S [(a,.box (ar4 cs off vv.cells))])):=
  M.one a _ [] (fun ρ' h j=>by rw[show ρ'=ρ from funext fun k=>h k ao]) (D4.refl _ _) (by rw[hS];exact q1) (fun g hg=>.inl (by rw[hS];exact hg)) (by simp only[It.res,AV.vals_setL];exact q2)
 exact .inr (.inl ⟨_,hrun,ρ,D4.refl _ _,M1,rfl⟩)
theorem b04(M:k8 φ ψ w0 w (n6 F ρ S)){o:Oper}{g:Operand->Value}{t:TypeId}{vv:AV}{v:Value}(hop:(execOp g o).run P w=.ok (.value (.pointer (some ⟨w.heap.size,0,none⟩))) (w.alloc (.cells v.cells t)))(hv:v=vv.val ρ){id:Nat}{r:Tr}(h:bg1 S id vv=some r)(hmk:∀j∈r.made,S j=.none)(hi:Inv S ρ r.made):
  N5 P o g w (K7 φ ψ w0 F ρ S r):=by
 unfold bg1 at h
 split at h
 case isFalse=>cases h
 rename_i hc
 cases h
 obtain⟨c1,_⟩:=aa9 M hc
 have hS:S id=.none:=hmk id ao
 have ha:D4 [id] ρ (fun j=>if j=id then .pointer (some ⟨w.heap.size,0,none⟩)else ρ j):=fun j hj=>by
  have:j≠id:=by simpa using hj
  simp[this]
 refine .inl ⟨_,_,hop,_,ha,M.one id _ [id] hi ha (C6.any ((Below.refl _ _).alloc (cn4 _) _)) (fun g hg=>?_) ?_,?_⟩
 ·simp only[It.res,if_true,U3]at hg
  exact .inr (by rw[show g=w.heap.size from hg];exact cn4 _)
 ·simp only[It.res,if_true,U3,Rs.holds]
  have e:AV.vals (fun j=>if j=id then .pointer (some ⟨w.heap.size,0,none⟩)else ρ j) vv.cells=AV.vals ρ vv.cells:=AV.vals_congr _ fun k hk=>by
   have:k≠id:=fun e=>bD7 hS hc (e▸hk)
   simp[this]
  rw[e,hv,c1]
  exact D3.new _ _ _
 simp[AV.val,U3]
end
def D.nil:Nat->Option D
 |1=>some (.ints [])
 |2=>some (.bools [])
 |3=>some (.bytes [])
 |4=>some (.strs [])
 |5=>some (.instrs [])
 |6=>some (.events [])
 |7=>some (.rows [])
 |8=>some (.brows [])
 |9=>some (.exprs [])
 |10=>some (.stmts [])
 |_=>none
theorem D.nil_len{k:Nat}{d:D}(h:D.nil k=some d):d.len=0:=by
 unfold D.nil at h
 split at h<;>first|(cases h;rfl)|cases h
def a12(S:Nat->It)(k:Nat):AV->Option D
 |.ref id=>match S id with
  |.dat d=>some d
  |_=>none
 |.v (.slice none 0 0)=>D.nil k
 |_=>none
def bX3(S:Nat->It)(k:Nat):AV->Option D
 |.ref id=>itD (S id)
 |.v (.slice none 0 0)=>D.nil k
 |_=>none
def bZ9(S:Nat->It)(k:Nat)(l:List AV):Option (D×List Prop):=
 match k,l with
 |1,[.v (.int .i64 n)]=>some (.ints [n],[])
 |2,[.v (.bool b)]=>some (.bools [b],[])
 |3,[.v (.int .u8 n)]=>some (.bytes [UInt8.ofNat n.toNat],[0<=n,n<256])
 |4,[.v (.string s)]=>some (.strs [s],[])
 |5,[.v (.int .i64 o),.v (.int .i64 a),.v (.int .i64 b),.v (.int .i64 c),.v (.int .i64 d)]=>some (.instrs [⟨o,a,b,c,d⟩],[])
 |6,[.v (.int .i64 a),.v (.int .i64 b)]=>some (.events [(a,b)],[])
 |7,[x]=>match a12 S 1 x with
  |some (.ints l)=>some (.rows [l],[])
  |_=>none
 |8,[x]=>match a12 S 2 x with
  |some (.bools l)=>some (.brows [l],[])
  |_=>none
 |9,[.v (.int .i64 a),.v (.int .i64 b),x]=>match a12 S 9 x with
  |some (.exprs l)=>some (.exprs [⟨a,b,l⟩],[])
  |_=>none
 |10,[.v (.int .i64 a),.v (.int .i64 b),.v (.int .i64 c),.v (.int .i64 d),x,.v (.int .i64 e),.v (.int .i64 f),y,.v (.int .i64 g),z,u]=>
  match a12 S 9 x,a12 S 9 y,a12 S 10 z,a12 S 10 u with
  |some (.exprs x),some (.exprs y),some (.stmts z),some (.stmts u)=>some (.stmts [⟨a,b,⟨c,d,x⟩,⟨e,f,y⟩,g,z,u⟩],[])
  |_,_,_,_=>none
 |_,_=>none
def D.app:D->D->Option D
 |.ints a,.ints b=>some (.ints (a++b))
 |.bools a,.bools b=>some (.bools (a++b))
 |.bytes a,.bytes b=>some (.bytes (a++b))
 |.strs a,.strs b=>some (.strs (a++b))
 |.instrs a,.instrs b=>some (.instrs (a++b))
 |.events a,.events b=>some (.events (a++b))
 |.rows a,.rows b=>some (.rows (a++b))
 |.brows a,.brows b=>some (.brows (a++b))
 |.exprs a,.exprs b=>some (.exprs (a++b))
 |.stmts a,.stmts b=>some (.stmts (a++b))
 |_,_=>none
theorem bH1{α:Type}(a b:List α)(z:α)(i:Nat):(a++b).getD i z=if i<a.length then a.getD i z else b.getD (i-a.length) z:=by
 split
 ·rename_i h;simp[cn2,co2 h]
 rename_i h;simp[cn2,cp9 (Nat.le_of_not_lt h)]
theorem P4{α:Type}(f:α->List X)(a b:List α)(z:α)(i:Nat):f ((a++b).getD i z)=if i<a.length then f (a.getD i z)else f (b.getD (i-a.length) z):=by rw[bH1];split<;>rfl
theorem D.app_ok{a b d:D}(h:a.app b=some d):d.len=a.len+b.len/\d.sz=a.sz/\b.sz=a.sz/\∀i,d.elem i=if i<a.len then a.elem i else b.elem (i-a.len):=by
 cases a<;>cases b<;>simp only[D.app]at h<;>first|cases h|skip
 ·exact⟨by simp[D.len],rfl,rfl,fun i=>P4 (fun x=>[.v (.int .i64 x)]) _ _ _ _⟩
 ·exact⟨by simp[D.len],rfl,rfl,fun i=>P4 (fun x=>[.v (.bool x)]) _ _ _ _⟩
 ·exact⟨by simp[D.len],rfl,rfl,fun i=>P4 (fun x:UInt8=>[.v (.int .u8 (x.toNat:Int))]) _ _ _ _⟩
 ·exact⟨by simp[D.len],rfl,rfl,fun i=>P4 (fun x=>[.v (.string x)]) _ _ _ _⟩
 ·exact⟨by simp[D.len],rfl,rfl,fun i=>P4 bg5 _ _ _ _⟩
 ·exact⟨by simp[D.len],rfl,rfl,fun i=>P4 as6 _ _ _ _⟩
 ·exact⟨by simp[D.len],rfl,rfl,fun i=>P4 (fun x=>[.sl (.ints x)]) _ _ _ _⟩
 ·exact⟨by simp[D.len],rfl,rfl,fun i=>P4 (fun x=>[.sl (.bools x)]) _ _ _ _⟩
 ·exact⟨by simp[D.len],rfl,rfl,fun i=>P4 aN2 _ _ _ _⟩
 exact⟨by simp[D.len],rfl,rfl,fun i=>P4 aI6 _ _ _ _⟩
section
variable{P:Program}{ι:Type}{φ ψ:Nat->Prop}{w0 w w':World}{F:ι->Rs}{ρ:Nat->Value}{S:Nat->It}
theorem RW.append{φ:Nat->Prop}{a b d:D}{xs ys:List Value}(h:a.app b=some d)(hl:xs.length=a.len*a.sz)(hx:RW w φ a xs)(hy:RW w φ b ys):RW w φ d (xs++ys):=by
 obtain⟨h1,h2,h3,h4⟩:=D.app_ok h
 intro i hi j x hj
 rw[h4]at hj
 rw[h2]
 split at hj
 ·rename_i hlt
  obtain⟨u,k1,k2⟩:=hx i hlt j x hj
  refine⟨u,?_,k2⟩
  rw[co2 ((co0.1 k1).1)];exact k1
 rename_i hge
 obtain⟨u,k1,k2⟩:=hy (i-a.len) al j x hj
 refine⟨u,?_,k2⟩
 have e:i*a.sz+j=xs.length+((i-a.len)*a.sz+j):=by
  rw[hl, <-Nat.add_assoc, <-Nat.add_mul]
  congr 2;omega
 rw[e,cp9 al,Nat.add_sub_cancel_left, <-k1,h3]
theorem RW.nil{φ:Nat->Prop}{d:D}(h:d.len=0)(xs:List Value):RW w φ d xs:=fun i hi=>al
theorem RD.nil{φ:Nat->Prop}{k:Nat}{d:D}(h:D.nil k=some d):RD w φ d (.slice none 0 0):=by
 have hl:=D.nil_len h
 refine RD.make (xs:=[]) ?_ (RW.nil hl _)
 rw[hl];exact A4.nil _ _ _
theorem ag8(M:k8 φ ψ w0 w (n6 F ρ S)){k:Nat}{x:AV}{d:D}(h:a12 S k x=some d):RD w (FrF φ (n6 F ρ S)) d (x.val ρ):=by
 unfold a12 at h
 split at h<;>first|cases h|skip
 ·split at h<;>first|cases h|skip
  rename_i id _ hS
  exact M.datAt hS
 exact RD.nil h
theorem ad4{φ:Nat->Prop}{d:D}{xs:List Value}(hl:d.len=1)(h:∀(j:Nat) x,(d.elem 0)[j]? =some x->∃u,xs[j]? =some u/\XH w φ x u):RW w φ d xs:=by
 intro i hi j x hj
 have:i=0:=al
 subst this
 rw[Nat.zero_mul,cr4];exact h j x hj
theorem z5{φ:Nat->Prop}{x:X}{r:List X}{u:Value}{s:List Value}(h:XH w φ x u)(hr:∀(j:Nat) y,r[j]? =some y->∃v,s[j]? =some v/\XH w φ y v):∀(j:Nat) y,(x::r)[j]? =some y->∃v,(u::s)[j]? =some v/\XH w φ y v:=by
 intro j y hj
 cases j with
 |zero=>simp at hj;subst hj;exact⟨u,rfl,h⟩
 |succ j=>simpa using hr j y (by simpa using hj)
theorem ad2{φ:Nat->Prop}{s:List Value}:∀(j:Nat) y,([]:List X)[j]? =some y->∃v,s[j]? =some v/\XH w φ y v:=by intro j y h;simp at h
theorem bO8(M:k8 φ ψ w0 w (n6 F ρ S)){k:Nat}{l:List AV}{d:D}{obs:List Prop}(h:bZ9 S k l=some (d,obs))(ho:x6 obs):d.len=1/\d.sz=l.length/\RW w (FrF φ (n6 F ρ S)) d (AV.vals ρ l):=by
 unfold bZ9 at h
 split at h<;>first|cases h|skip
 ·exact⟨rfl,rfl,ad4 rfl (z5 rfl ad2)⟩
 ·exact⟨rfl,rfl,ad4 rfl (z5 rfl ad2)⟩
 ·rename_i n
  simp only[x6]at ho
  refine⟨rfl,rfl,ad4 rfl (z5 ?_ ad2)⟩
  show Value.int .u8 n=Value.int .u8 ((UInt8.ofNat n.toNat).toNat:Int)
  congr 1
  have:(UInt8.ofNat n.toNat).toNat=n.toNat:=by simp[UInt8.toNat_ofNat'];omega
  rw[this];omega
 ·exact⟨rfl,rfl,ad4 rfl (z5 rfl ad2)⟩
 ·exact⟨rfl,rfl,ad4 rfl (z5 rfl (z5 rfl (z5 rfl (z5 rfl (z5 rfl ad2)))))⟩
 ·exact⟨rfl,rfl,ad4 rfl (z5 rfl (z5 rfl ad2))⟩
 ·split at h<;>first|cases h|skip
  rename_i hx
  exact⟨rfl,rfl,ad4 rfl (z5 (ag8 M hx) ad2)⟩
 ·split at h<;>first|cases h|skip
  rename_i hx
  exact⟨rfl,rfl,ad4 rfl (z5 (ag8 M hx) ad2)⟩
 ·split at h<;>first|cases h|skip
  rename_i hx
  exact⟨rfl,rfl,ad4 rfl (z5 rfl (z5 rfl (z5 (ag8 M hx) ad2)))⟩
 split at h<;>first|cases h|skip
 rename_i hx hy hz hu
 exact⟨rfl,rfl,ad4 rfl (z5 rfl (z5 rfl (z5 rfl (z5 rfl (z5 (ag8 M hx) (z5 rfl (z5 rfl (z5 (ag8 M hy) (z5 rfl (z5 (ag8 M hz) (z5 (ag8 M hu) ad2)))))))))))⟩
def aT8(S:Nat->It)(k:Nat):List (List AV)->Option (D×List Prop)
 |[]=>(D.nil k).map fun d=>(d,[])
 |c::r=>
  match bZ9 S k c,aT8 S k r with
  |some (a,oa),some (b,ob)=>(a.app b).map fun d=>(d,oa++ob)
  |_,_=>none
theorem a67(M:k8 φ ψ w0 w (n6 F ρ S)){k n:Nat}:∀{l:List (List AV)} {d:D} {obs:List Prop},aT8 S k l=some (d,obs)->x6 obs->(∀c∈l,c.length=n)->d.len=l.length/\(l=[]\/d.sz=n)/\RW w (FrF φ (n6 F ρ S)) d (AV.vals ρ l.flatten)
 |[],d,obs,h,_,_=>by
  simp only[aT8,cn9]at h
  obtain⟨d',h1,h2⟩:=h
  cases h2
  exact⟨D.nil_len h1,.inl rfl,RW.nil (D.nil_len h1) _⟩
 |c::r,d,obs,h,ho,hn=>by
  simp only[aT8]at h
  split at h
  case h_2=>cases h
  rename_i a oa b ob h1 h2
  obtain⟨d',h3,h4⟩:=cn9.1 h
  cases h4
  rw[x6.append]at ho
  obtain⟨k1,k2,k3⟩:=bO8 M h1 ho.1
  obtain⟨m1,m2,m3⟩:=a67 M h2 ho.2 fun c hc=>hn c (cq8 _ hc)
  obtain⟨q1,q2,q3,q4⟩:=D.app_ok h3
  have hc:=hn c cr0
  refine⟨ah,.inr (by rw[q2,k2,hc]),?_⟩
  rw[List.flatten_cons,AV.vals_append]
  exact RW.append h3 (by rw[AV.vals_length,k1,Nat.one_mul,k2]) k3 m3
def af7(e:Operand->Option AV)(S:Nat->It)(n:Nat):Nat->List (Nat×Operand)->Option (List (List AV))
 |_,[]=>some []
 |k,(i,x)::r=>
  match e x with
  |some v=>if i=k&&v.cells.length=n&&aD5 S v then(af7 e S n (k+1) r).map fun l=>v.cells::l else none
  |none=>none
theorem ar7{e:Operand->Option AV}{n:Nat}:∀{ps:List (Nat×Operand)} {k:Nat} {l:List (List AV)},af7 e S n k ps=some l->l.length=ps.length/\∀c∈l,c.length=n
 |[],k,l,h=>by simp only[af7,Option.some.injEq]at h;subst h;exact⟨rfl,fun c hc=>by cases hc⟩
 |(i,x)::r,k,l,h=>by
  simp only[af7]at h
  split at h
  case h_2=>cases h
  rename_i v hv
  split at h
  case isFalse=>cases h
  rename_i hc
  obtain⟨m,h1,h2⟩:=cn9.1 h
  subst h2
  obtain⟨k1,k2⟩:=ar7 h1
  simp only[cm9,decide_eq_true_eq]at hc
  refine⟨by simp[k1],fun c hc'=>?_⟩
  rcases cq9.1 hc' with rfl|hc'
  ·exact hc.1.2
  exact k2 c hc'
theorem a46:∀(us a b:List Value) (p:Nat),a.length=p->us.length<=b.length->setFrom (a++b) p us=a++(us++b.drop us.length)
 |us,a,b,p,h,hl=>by
  subst h
  rw[U9 _ _ _ ah]
  simp[List.drop_append]
theorem ak7(M:k8 φ ψ w0 w (n6 F ρ S)){e:Operand->Option AV}{g:Operand->Value}{n:Nat}:∀(ps:List (Nat×Operand)) (k:Nat) (l:List (List AV)) (pre suf:List Value),af7 e S n k ps=some l->(∀p∈ps,∀v,e p.2=some v->g p.2=v.val ρ)->pre.length=k*n->suf.length=ps.length*n->
  Instr.fill (fun i=>some (i*n,n)) (pre++suf).toArray (ps.map fun p=>(p.1,g p.2))=some (pre++AV.vals ρ l.flatten).toArray
 |[],k,l,pre,suf,h,_,_,hs=>by
  simp only[af7,Option.some.injEq]at h;subst h
  have:suf=[]:=co7 (by simpa using hs)
  subst this
  simp[Instr.fill,AV.vals]
 |(i,x)::r,k,l,pre,suf,h,hg,hp,hs=>by
  simp only[af7]at h
  split at h
  case h_2=>cases h
  rename_i v hv
  split at h
  case isFalse=>cases h
  rename_i hc
  obtain⟨m,h1,h2⟩:=cn9.1 h
  subst h2
  simp only[cm9,decide_eq_true_eq]at hc
  obtain⟨⟨rfl,hn⟩,hok⟩:=hc
  obtain⟨c1,_⟩:=aa9 M hok
  have hvl:(AV.vals ρ v.cells).length=n:=by rw[AV.vals_length,hn]
  have hgx:=hg (i,x) cr0 v hv
  simp only at hgx
  simp only[cn6,cq7]at hs
  simp only[cq5,Instr.fill]
  rw[hgx,c1]
  have hz:=aG0 (AV.vals ρ v.cells) 0 (i*n) (pre++suf).toArray
  simp only[Nat.add_zero]at hz
  rw[a46 _ _ _ _ hp al]at hz
  have ih:=ak7 M r (i+1) m (pre++AV.vals ρ v.cells) (suf.drop n) h1 (fun p hp'=>hg p (cq8 _ hp')) (by rw[cn3,hp,hvl,cq7]) (by rw[List.length_drop];omega)
  rw[List.flatten_cons,AV.vals_append, <-cr6, <-ih]
  simp only[List.size_toArray,hvl,cn3]
  rw[if_neg ah]
  congr 1
  rw[cr6]
  rw[hvl]at hz
  rw[<-hz]
  simp[Array.zipIdx, <-Array.foldl_toList,List.mapIdx_eq_zipIdx_map]
theorem k8.newRow(M:k8 φ ψ w0 w (n6 F ρ S)){id:Nat}{e:TypeId}{d:D}{v:Value}{xs:List Value}(hb:Below w.heap.size w w')(hS:S id=.none)(hi:Inv S ρ [id])(ho:w'.ownsRow w.heap.size e d.sz v d.len xs)(hx:RW w (FrF φ (n6 F ρ S)) d xs):
  ∃ρ',D4 [id] ρ ρ'/\k8 φ ψ w0 w' (n6 F ρ' (n5 S [(id,.row e d)]))/\v=ρ' id:=by
 have ha:D4 [id] ρ (fun j=>if j=id then v else ρ j):=fun j hj=>by
  have:j≠id:=by simpa using hj
  simp[this]
 refine⟨_,ha,M.one id _ [id] hi ha (C6.any hb) (fun g hg=>?_) ?_,ao⟩
 ·simp only[It.res,if_true]at hg
  exact .inr (ho.lt g hg).1
 simp only[It.res,if_true]
 refine⟨fun xs=>RW.nice d xs,xs,N9 ho (cp5 _),?_⟩
 refine RW.nice d xs _ _ _ _ ⟨hb.size,fun b hbl hf=>⟨⟨hf.1,fun k hk=>?_⟩,hb.block b hbl⟩⟩ hx
 cases k with
 |inl i=>exact hf.2 (.inl i) hk
 | inr j =>
  by_cases e':j=id
  ·subst e'
   simp only[n6,n5,if_true,It.res]at hk
   have:=(ho.lt b hk).1;omega
  simp only[n6,n5,if_neg e']at hk
  rw[hi _ ha j]at hk
  exact hf.2 (.inr j) hk
end
def am7(P:Program)(t:TypeId):Option Nat:=(P.info? t).map (·.bytes)
def aw5(P:Program)(dk:TypeId->Nat)(e:Operand->Option AV)(S:Nat->It)(id:Nat)(t:TypeId)(len:Nat)(parts:List (Nat×Operand)):Option Tr:=
 match U7 P t with
 |none=>none
 | some el =>
  match Z3 P el,L7 P el,D.nil (dk el)with
  | some n, some z, some d0 =>
   if 0<n&&z.cells.size=n&&d0.sz=n&&len=parts.length&&len*n<=16777216 then
    match af7 e S n 0 parts with
    |some l=>(aT8 S (dk el) l).map fun r=>⟨[(id,.row el r.1)],[id],.ref id,r.2⟩
    |none=>none
   else none
  |_,_,_=>none
def bc0(k n:Nat):Option (D×Value):=
 match k with
 |1=>some (.ints (cm8 n 0),.int .i64 0)
 |2=>some (.bools (cm8 n false),.bool false)
 |3=>some (.bytes (cm8 n 0),.int .u8 0)
 |7=>some (.rows (cm8 n []),.slice none 0 0)
 |8=>some (.brows (cm8 n []),.slice none 0 0)
 |_=>none
def aZ3(P:Program)(dk:TypeId->Nat)(id:Nat)(t:TypeId)(l c:AV):Option Tr:=
 match l,c,U7 P t with
 |.v (.int .i64 n),.v (.int .i64 m),some el=>
  match bc0 (dk el) n.toNat,am7 P el,Z3 P el,L7 P el with
  |some (d,z),some by_,some sz,some z'=>if sz=1 then some ⟨[(id,.row el d)],[id],.ref id,[m=n,0<=n,by_*n<=281474976710656,n<=9223372036854775807,z'=z]⟩else none
  |_,_,_,_=>none
 |_,_,_=>none
def bk2(P:Program)(dk:TypeId->Nat)(S:Nat->It)(id:Nat)(t t':TypeId)(s x:AV):Option Tr:=
 if t=t' then
  match U7 P t with
  |none=>none
  | some el =>
   match bX3 S (dk el) x,am7 P el,Z3 P el,L7 P el with
   | some d2, some by_, some n, some z =>
    if 0<n&&z.cells.size=n&&d2.sz=n then
     match s with
     |.ref a=>match S a with
      |.row e' d1=>if e'=el then(d1.app d2).map fun d=>⟨[(a,.dead),(id,.row el d)],[id],.ref id,[d1.len+d2.len<=9223372036854775807,(d1.len+d2.len)*by_<=140737488355328]⟩else none
      |_=>none
     |.v (.slice none 0 0)=>some ⟨[(id,.row el d2)],[id],.ref id,[d2.len<=9223372036854775807,d2.len*by_<=140737488355328]⟩
     |_=>none
    else none
   |_,_,_,_=>none
 else none
def a13(P:Program)(S:Nat->It)(id:Nat)(t:TypeId)(x:AV)(lo hi:Option AV):Option Tr:=
 match x with
 | .ref a => match S a, (U7 P t).bind (Z3 P) with
  | .dat d, some n =>
   if n=d.sz then
    match lo,hi with
    |none,none=>some ⟨[(id,.dat (d.sub 0 d.len))],[id],.ref id,[]⟩
    |none,some (.v (.int _ h))=>some ⟨[(id,.dat (d.sub 0 h.toNat))],[id],.ref id,[0<=h,h<=(d.len:Int)]⟩
    |some (.v (.int _ l)),none=>some ⟨[(id,.dat (d.sub l.toNat d.len))],[id],.ref id,[0<=l,l<=(d.len:Int)]⟩
    |some (.v (.int _ l)),some (.v (.int _ h))=>some ⟨[(id,.dat (d.sub l.toNat h.toNat))],[id],.ref id,[0<=l,l<=h,h<=(d.len:Int)]⟩
    |_,_=>none
   else none
  |_,_=>none
 | .v (.string s) => match P.underlying t with
  |some .string=>
   match lo,hi with
   |none,some (.v (.int _ h))=>some ⟨[],[],.v (.string (s.extract 0 h.toNat)),[0<=h,h<=(s.size:Int)]⟩
   |some (.v (.int _ l)),none=>some ⟨[],[],.v (.string (s.extract l.toNat s.size)),[0<=l,l<=(s.size:Int)]⟩
   |some (.v (.int _ l)),some (.v (.int _ h))=>some ⟨[],[],.v (.string (s.extract l.toNat h.toNat)),[0<=l,l<=h,h<=(s.size:Int)]⟩
   |_,_=>none
  |_=>none
 |_=>none
section
variable{P:Program}{ι:Type}{φ ψ:Nat->Prop}{w0 w w':World}{F:ι->Rs}{ρ:Nat->Value}{S:Nat->It}
theorem ba8(M:k8 φ ψ w0 w (n6 F ρ S)){dk:TypeId->Nat}{o:Oper}{e:Operand->Option AV}{g:Operand->Value}{t:TypeId}{len:Nat}{parts:Array (Nat×Operand)}(hop:o.op=.buildSlice t len parts)(hg:∀p∈parts.toList,∀v,e p.2=some v->g p.2=v.val ρ){id:Nat}{r:Tr}(h:aw5 P dk e S id t len parts.toList=some r)(ho:x6 r.obs)(hmk:∀j∈r.made,S j=.none)(hi:Inv S ρ r.made):
  N5 P o g w (K7 φ ψ w0 F ρ S r):=by
 unfold aw5 at h
 split at h<;>first|cases h|skip
 rename_i el hel
 split at h<;>first|cases h|skip
 rename_i n z d0 h1 h2 h3
 split at h
 case isFalse=>cases h
 rename_i hc
 simp only[cm9,decide_eq_true_eq]at hc
 obtain⟨⟨⟨⟨hn,hz⟩,hd0⟩,hlen⟩,hbig⟩:=hc
 split at h
 case h_2=>cases h
 rename_i l hl
 obtain⟨⟨d,obs⟩,h4,h5⟩:=cn9.1 h
 subst h5
 obtain⟨k1,k2⟩:=ar7 hl
 obtain⟨m1,m2,m3⟩:=a67 M h4 ho k2
 have hsz:d.sz=n:=by
  rcases m2 with m2|m2
  ·subst m2
   simp only[aT8,h3,Option.map_some,Option.some.injEq,Prod.mk.injEq]at h4
   rw[<-h4.1,hd0]
  exact m2
 have hS:S id=.none:=hmk id ao
 obtain⟨ie,hie,hie2⟩:=cn9.1 h1
 have hiz:ie.zero=some z:=by
  unfold L7 at h2;rw[hie]at h2;exact h2
 have hu:=Z7 hel
 have hdl:d.len=len:=by rw[m1,k1,hlen]
 have hvl:(AV.vals ρ l.flatten).length=len*n:=by
  have:∀(l:List (List AV)),(∀c∈l,c.length=n)->l.flatten.length=l.length*n:=by
   intro l
   induction l with
   |nil=>intro _;simp
   |cons c r ih=>intro h;rw[List.flatten_cons,cn3,ih fun c hc=>h c (cq8 _ hc),h c cr0,cn6,cq7];omega
  rw[AV.vals_length,this l k2,k1,hlen]
 have hrun:(Instr.buildSlice t len (parts.map fun p=>(p.1,g p.2))).run P w=.ok (.slice (some ⟨w.heap.size,0,none⟩) len len) (w.alloc (.cells (AV.vals ρ l.flatten).toArray el)):=by
  rcases Nat.eq_zero_or_pos len with h0|h0
  ·have hp0:parts.toList=[]:=co7 al
   have hl0:l=[]:=co7 al
   subst hl0
   have hpa:parts= #[]:=by apply Array.ext';simpa using hp0
   subst hpa;subst h0
   have hr0:Array.range 0= #[]:=rfl
   simp[Instr.buildSlice,run_underlying hu,sizeOf,typeInfo,hie,Instr.fill,newRow,AV.vals,hr0]
  refine run_buildSlice w t el len _ _ ie z hu hie hiz (by rw[hie2];omega) (by rw[hie2];have:=Nat.mul_pos h0 hn;omega) ?_
  have hf:=ak7 M parts.toList 0 l [] (((Array.range (len*ie.size)).map (z.cells[· %z.cells.size]!)).toList) hl hg ao (by simp[hie2,hlen])
  rw[hie2]at hf ⊢
  simp only[List.nil_append,Array.toArray_toList]at hf
  simpa using hf
 have hle:len<=16777216:=cp4 (Nat.le_mul_of_pos_right len hn) hbig
 have hown:=(z6 w (AV.vals ρ l.flatten).toArray len n el rfl (by simpa using hvl) al).1
 rw[<-hdl, <-hsz]at hown
 obtain⟨ρ',q1,q2,q3⟩:=M.newRow (id:=id) (e:=el) (d:=d) ((Below.refl _ _).alloc (cn4 _) _) hS hi hown (by simpa using m3)
 have hrun2:(execOp g o).run P w=.ok (.value (.slice (some ⟨w.heap.size,0,none⟩) len len)) (w.alloc (.cells (AV.vals ρ l.flatten).toArray el)):=by
  simp only[execOp,hop,Sem.run_bind]
  rw[show(parts.map fun(i,x)=>(i,g x))=parts.map fun p=>(p.1,g p.2)from rfl,hrun]
  rfl
 exact .inl ⟨_,_,hrun2,ρ',q1,q2,by simp only[AV.val];rw[<-q3,hdl]⟩
theorem bY7{φ:Nat->Prop}{d:D}{v:Value}(h:RD w φ d v):v.oneCell'=true:=by
 obtain⟨a,cap,rfl,_⟩:=h.open;rfl
theorem bH6(d:D)(i j:Nat)(x:Value)(h:(d.elem i)[j]? =some (.v x)):x.oneCell'=true:=by
 have:∀y∈d.elem i,∀x,y=.v x->x.oneCell'=true:=by
  intro y hy x hx
  subst hx
  cases d<;>simp[D.elem,bg5,as6,aN2,aI6]at hy<;>(try rcases hy with rfl|rfl|rfl|rfl|rfl|rfl|rfl)<;>first|rfl|(subst hy;rfl)|(rcases hy with rfl|rfl|rfl|rfl|rfl<;>rfl)|(rcases hy with rfl|rfl<;>rfl)
 exact this _ (cp6 h) x rfl
theorem a49{φ:Nat->Prop}{d:D}{xs:List Value}(hl:xs.length=d.len*d.sz)(h:RW w φ d xs):∀u∈xs,u.oneCell'=true:=by
 intro u hu
 obtain⟨p,hp⟩:=List.mem_iff_getElem?.1 hu
 have hp':=(co0.1 hp).1
 have hs:0<d.sz:=by cases d<;>simp[D.sz]
 have hi:p/d.sz<d.len:=by rw[hl]at hp';exact Nat.div_lt_of_lt_mul (by rw[Nat.mul_comm];exact hp')
 have hj:p%d.sz<(d.elem (p/d.sz)).length:=by rw[D.elem_len];exact Nat.mod_lt _ hs
 obtain⟨v,h3,h4⟩:=h _ hi _ _ (cn0 hj)
 rw[Nat.mul_comm,Nat.div_add_mod,hp]at h3
 cases h3
 cases hx:(d.elem (p/d.sz))[p%d.sz]with
 |v x=>
  rw[hx]at h4
  rw[show u=x from h4]
  exact bH6 d _ _ x (by rw[cn0 hj,hx])
 |sl d'=>rw[hx]at h4;exact bY7 (show RD _ _ _ _ from h4)
theorem bM5(M:k8 φ ψ w0 w (n6 F ρ S)){k:Nat}{x:AV}{d:D}(h:bX3 S k x=some d):∃xs,I6 w (x.val ρ) d.len d.sz xs/\RW w (FrF φ (n6 F ρ S)) d xs:=by
 unfold bX3 at h
 split at h<;>first|cases h|skip
 ·rename_i id
  cases hS:S id with
  |dat d'=>
   rw[hS]at h;cases h
   obtain⟨xs,h1,h2⟩:=(M.datAt hS).split
   exact⟨xs,h1.row,h2⟩
  |row e d'=>
   rw[hS]at h;cases h
   obtain⟨xs,h1,h2⟩:=M.rowAt hS
   exact⟨xs,R4 h1,h2⟩
  |none=>rw[hS]at h;cases h
  |dead=>rw[hS]at h;cases h
  |box cs=>rw[hS]at h;cases h
  |tree d=>rw[hS]at h;cases h
  |kept e d=>rw[hS]at h;cases h
  |hole k i l=>rw[hS]at h;cases h
  |err=>rw[hS]at h;cases h
 refine⟨[],?_,RW.nil (D.nil_len h) _⟩
 rw[D.nil_len h];exact I6.nil _ _
theorem k8.move(M:k8 φ ψ w0 w (n6 F ρ S)){a id:Nat}{e:TypeId}{d1 d:D}{v:Value}{xs:List Value}(hS:S a=.row e d1)(hSi:S id=.none)(hi:Inv S ρ [id])(hk:C6 (fun b=>¬(ρ a).ownBlock=some b) w w')
  (ho:w'.ownsRow 0 e d.sz v d.len xs) (hx:RW w (FrF φ (n6 F ρ S)) d xs) (hg:∀g,v.ownBlock=some g->(ρ a).ownBlock=some g\/w.heap.size<=g):
  ∃ρ',D4 [id] ρ ρ'/\k8 φ ψ w0 w' (n6 F ρ' (n5 S [(a,.dead),(id,.row e d)]))/\v=ρ' id:=by
 have hne:id≠a:=fun h=>by rw[h,hS]at hSi;cases hSi
 have ha:D4 [id] ρ (fun j=>if j=id then v else ρ j):=fun j hj=>by
  have:j≠id:=by simpa using hj
  simp[this]
 have M1:k8 φ ψ w0 w' (fun k:ι ⊕ Nat=>match k with|.inl i=>F i|.inr j=>if j=a then .row e d.sz v d.len (fun xs w φ=>RW w φ d xs)else(S j).res ρ j):=by
  refine k8.put M (.inr a) (fun k hk'=>?_) ?_ ?_ ?_
  ·cases k with
   |inl i=>rfl
   |inr j=>
    have:j≠a:=fun e=>hk' (by rw[e])
    simp[n6,this]
  ·simp only[n6,hS,It.res];exact hk
  ·simp only[if_true]
   refine⟨fun xs=>RW.nice d xs,xs,ho,RW.nice d xs _ _ _ _ ⟨hk.size,fun b hb hf=>⟨⟨hf.1,fun k hk'=>?_⟩,hk.block b hb fun he=>by have:=hf.2 (.inr a);simp only[n6,hS,It.res]at this;exact this he⟩⟩ hx⟩
   cases k with
   |inl i=>exact hf.2 (.inl i) hk'
   | inr j =>
    by_cases e':j=a
    ·subst e'
     simp only[if_true]at hk'
     have h2:=hf.2 (.inr j)
     simp only[n6,hS,It.res]at h2
     rcases hg b hk' with h3|h3
     ·exact h2 h3
     omega
    simp only[if_neg e']at hk'
    exact hf.2 (.inr j) hk'
  intro g hg'
  simp only[if_true]at hg'
  simp only[n6,hS,It.res]
  exact hg g hg'
 refine⟨_,ha,?_,ao⟩
 refine M1.map (fun k:ι ⊕ Nat=>(match k with|.inl i=>some (.inl i)|.inr j=>if j=id then some (.inr a)else if j=a then none else some (.inr j):Option (ι ⊕ Nat))) ?_ ?_
 ·intro k k' i h1 h2
  cases k with
  |inl x=>
   cases k' with
   |inl y=>simp at h1 h2;rw[h1]at*;cases h2;rfl
   |inr y=>simp at h1;subst h1;simp at h2;split at h2<;>first|cases h2|(split at h2<;>cases h2)
  | inr x =>
   cases k' with
   |inl y=>simp at h2;subst h2;simp at h1;split at h1<;>first|cases h1|(split at h1<;>cases h1)
   | inr y =>
    simp only at h1 h2
    by_cases e1:x=id
    ·rw[if_pos e1]at h1
     cases h1
     by_cases e2:y=id
     ·rw[e1,e2]
     rw[if_neg e2]at h2
     by_cases e3:y=a
     ·rw[if_pos e3]at h2;cases h2
     rw[if_neg e3]at h2;simp at h2;exact absurd h2 e3
    rw[if_neg e1]at h1
    by_cases e3:x=a
    ·rw[if_pos e3]at h1;cases h1
    rw[if_neg e3]at h1
    simp at h1;subst h1
    by_cases e2:y=id
    ·rw[if_pos e2]at h2;simp at h2;exact absurd h2.symm e3
    rw[if_neg e2]at h2
    by_cases e4:y=a
    ·rw[if_pos e4]at h2;cases h2
    rw[if_neg e4]at h2;simp at h2;rw[h2]
 intro k
 cases k with
 |inl i=>exact .inl ⟨_,rfl,rfl⟩
 | inr j =>
  by_cases e1:j=id
  ·subst e1
   refine .inl ⟨.inr a,ao,?_⟩
   simp[n6,n5,hne,It.res]
  by_cases e2:j=a
  ·subst e2
   exact .inr (by simp[n6,n5,It.res])
  refine .inl ⟨.inr j,by simp[e1,e2],?_⟩
  simp only[n6,n5,if_neg e1,if_neg e2]
  exact hi _ ha j
theorem app_ok(M:k8 φ ψ w0 w (n6 F ρ S)){dk:TypeId->Nat}{o:Oper}{g:Operand->Value}{t t':TypeId}{s x:Operand}(hop:o.op=.call {callee:=.builtin .append,args:= #[s,x],argTypes:= #[t,t']}){sa xa:AV}(hs:g s=sa.val ρ)(hx:g x=xa.val ρ){id:Nat}{r:Tr}(h:bk2 P dk S id t t' sa xa=some r)(ho:x6 r.obs)(hmk:∀j∈r.made,S j=.none)(hi:Inv S ρ r.made):
  N5 P o g w (K7 φ ψ w0 F ρ S r):=by
 unfold bk2 at h
 split at h
 case isFalse=>cases h
 rename_i htt
 subst htt
 split at h<;>first|cases h|skip
 rename_i el hel
 split at h<;>first|cases h|skip
 rename_i d2 by_ n z h1 h2 h3 h4
 split at h
 case isFalse=>cases h
 rename_i hc
 simp only[cm9,decide_eq_true_eq]at hc
 obtain⟨⟨hn,hz⟩,hd2⟩:=hc
 have hu:=Z7 hel
 obtain⟨ie,hie,hie2⟩:=cn9.1 h3
 have hiz:ie.zero=some z:=by unfold L7 at h4;rw[hie]at h4;exact h4
 have hib:ie.bytes=by_:=by
  unfold am7 at h2;rw[hie]at h2;exact Option.some.inj h2
 have hinfo:(P.info? el).map (fun i=>(i.zero,i.size,i.bytes))=some (some z,n,by_):=by rw[hie];simp[hiz,hie2,hib]
 obtain⟨news,k1,k2⟩:=bM5 M h1
 have k1':=k1
 rw[hd2]at k1'
 have h1c:=a49 k1.1 k2
 have hexec:∀v w',(Builtin.append_ #[t,t] o.type #[sa.val ρ,xa.val ρ]).run P w=.ok v w'->(execOp g o).run P w=.ok (.value v) w':=by
  intro v w' hr
  simp only[execOp,hop,resolve,invoke,builtin,Sem.run_bind,Sem.run_pure,Result.andThen_ok,List.map_toArray,cq5,List.map_nil,hs,hx,hr]
 split at h
 ·rename_i a
  split at h<;>first|cases h|skip
  rename_i e' d1 hS
  split at h
  case isFalse=>cases h
  rename_i he'
  subst he'
  obtain⟨d,hd,hr⟩:=cn9.1 h
  subst hr
  simp only[x6]at ho
  obtain⟨q1,q2,q3,q4⟩:=D.app_ok hd
  obtain⟨xs,m1,m2⟩:=M.rowAt hS
  have hsz:d1.sz=n:=al
  rw[hsz]at m1
  obtain⟨a',k',w',hrun,r2,r3,r4,r5⟩:=au7 (P:=P) (lo:=0) (ty:=o.type) hu hinfo hz hn m1 k1' h1c ho.1 ho.2.1 (cp5 _)
  obtain⟨ρ',p1,p2,p3⟩:=M.move (id:=id) (d:=d) (v:=.slice a' (d1.len+d2.len) k') (xs:=xs++news) hS (hmk id ao) hi ⟨r4.os,r4.tape,r4.output,r4.size,fun b hb hne=>r4.block b hb fun h=>hne h.symm⟩
   (by rw[q2,hsz,q1];exact r2) (RW.append hd (by rw[m1.1,hsz]) m2 k2) r5
  exact .inl ⟨_,_,hexec _ _ hrun,ρ',p1,p2,p3⟩
 ·cases h
  simp only[x6]at ho
  have m1:w.ownsRow 0 el n (.slice none 0 0) 0 []:=World.ownsRow_nil _ _ _ _
  obtain⟨a',k',w',hrun,r2,r3,r4,r5⟩:=au7 (P:=P) (lo:=w.heap.size) (ty:=o.type) hu hinfo hz hn (World.ownsRow_nil _ _ _ _) k1' h1c al (by rw[cr4];exact ho.2.1) (cn4 _)
  rw[cr4,List.nil_append]at r2
  obtain⟨ρ',p1,p2,p3⟩:=M.newRow (id:=id) (e:=el) (d:=d2) (w':=w') r3 (hmk id ao) hi (by rw[hd2];exact r2) k2
  refine .inl ⟨_,_,hexec _ _ hrun,ρ',p1,p2,?_⟩
  rw[cr4];exact p3
 cases h
theorem D.sub_len(d:D)(l h:Nat)(hh:h<=d.len):(d.sub l h).len=h-l:=by
 cases d<;>simp only[D.sub,D.len,List.length_drop,List.length_take]<;>(simp only[D.len]at hh;omega)
theorem D.sub_sz(d:D)(l h:Nat):(d.sub l h).sz=d.sz:=by cases d<;>rfl
theorem bH0{α:Type}(x:List α)(z:α)(l h i:Nat)(hi:i<h-l):((x.take h).drop l).getD i z=x.getD (l+i) z:=by
 simp only[cn2,List.getElem?_drop,List.getElem?_take]
 rw[if_pos al]
theorem D.sub_elem(d:D)(l h i:Nat)(hi:i<h-l):(d.sub l h).elem i=d.elem (l+i):=by
 cases d<;>simp only[D.sub,D.elem]<;>rw[bH0 _ _ _ _ _ hi]
theorem RD.sub{φ:Nat->Prop}{d:D}{a:Option Addr}{n cap l h:Nat}(hr:RD w φ d (.slice a n cap))(hl:l<=h)(hh:h<=d.len):RD w φ (d.sub l h) (.slice (if cap=l then a else a.map (·.add (l*d.sz))) (h-l) (cap-l)):=by
 obtain⟨xs,⟨k0,a',cap',he,k1,k2,k3⟩,k4⟩:=hr.split
 cases he
 have hs:0<d.sz:=by cases d<;>simp[D.sz]
 have hle:h*d.sz<=d.len*d.sz:=cr3 _ hh
 have hle2:l*d.sz<=h*d.sz:=cr3 _ hl
 refine RD.make (xs:=(xs.take (h*d.sz)).drop (l*d.sz)) ⟨?_,_,_,by rw[D.sub_len d l h hh],by rw[D.sub_len d l h hh];omega,al,fun hp=>?_⟩ ?_
 ·rw[D.sub_len d l h hh,D.sub_sz,List.length_drop,List.length_take,k0,Nat.sub_mul];omega
 ·rw[D.sub_len d l h hh]at hp
  obtain⟨b,off,rfl,hb,hf,hc⟩:=k3 al
  rw[if_neg al]
  refine⟨b,off+l*d.sz,?_,hb,hf,fun j u hj=>?_⟩
  ·simp only[Option.map_some,Addr.add];split
   ·rename_i h0;rw[h0,Nat.add_zero]
   rfl
  rw[List.getElem?_drop,List.getElem?_take]at hj
  split at hj
  ·have:=hc _ u hj;rw[<-Nat.add_assoc]at this;exact this
  cases hj
 intro i hi j x hx
 rw[D.sub_len d l h hh]at hi
 rw[D.sub_elem d l h i hi]at hx
 have hj:j<d.sz:=by
  have:=(co0.1 hx).1
  rw[D.elem_len]at this;exact this
 obtain⟨u,m1,m2⟩:=k4 (l+i) al j x hx
 refine⟨u,?_,m2⟩
 rw[D.sub_sz,List.getElem?_drop,List.getElem?_take,if_pos, <-m1]
 ·congr 1;rw[Nat.add_mul];omega
 have:(i+1)*d.sz<=(h-l)*d.sz:=cr3 _ al
 rw[cq7,Nat.sub_mul]at this;omega
theorem Q3{k:IntKind}{i:Int}{y:Nat}{c:BoundsCode}(h1:0<=i)(h2:i<=y):(Instr.sliceBound (.int k i) y c).run P w=.ok i.toNat w:=by
 simp[Instr.sliceBound,asIntOf,h1,h2]
theorem k8.newDat(M:k8 φ ψ w0 w (n6 F ρ S)){id:Nat}{d:D}{v:Value}(hS:S id=.none)(hi:Inv S ρ [id])(h:RD w (FrF φ (n6 F ρ S)) d v):∃ρ',D4 [id] ρ ρ'/\k8 φ ψ w0 w (n6 F ρ' (n5 S [(id,.dat d)]))/\v=ρ' id:=by
 obtain⟨ρ',h1,h2,h3⟩:=M.dats [.sl d] [v] id ⟨h,co8⟩ (fun j hj=>by simp[X9]at hj;rw[hj];exact hS) (by simpa[X9]using hi)
 simp only[X9,cq5,List.map_nil]at h1
 simp only[xav,AV.vals,AV.val,List.cons.injEq,and_true]at h3
 exact⟨ρ',h1,h2,h3⟩
theorem bI5(M:k8 φ ψ w0 w (n6 F ρ S)){o:Oper}{g:Operand->Value}{t:TypeId}{x:Operand}{lo hi:Option Operand}{e:Operand->Option AV}(hop:o.op=.slice t x lo hi none){xa:AV}(hx:g x=xa.val ρ){la ha:Option AV}(hlo:lo.map g=la.map (AV.val ρ))(hhi:hi.map g=ha.map (AV.val ρ)){id:Nat}{r:Tr}(h:a13 P S id t xa la ha=some r)(ho:x6 r.obs)(hmk:∀j∈r.made,S j=.none)(hin:Inv S ρ r.made):
  N5 P o g w (K7 φ ψ w0 F ρ S r):=by
 have hexec:∀v,(Instr.slice t (xa.val ρ) (la.map (AV.val ρ)) (ha.map (AV.val ρ)) none).run P w=.ok v w->P.underlying t=some .string\/(∃el,P.underlying t=some (.slice el))->(execOp g o).run P w=.ok (.value v) w:=by
  intro v hr hu
  have hA:(Instr.sliceAt t (xa.val ρ) (la.map (AV.val ρ)) (ha.map (AV.val ρ)) none).run P w=.ok v w:=by
   unfold Instr.sliceAt
   rcases hu with hu|⟨el,hu⟩
   ·rw[Sem.run_bind,run_underlying hu];exact hr
   rw[Sem.run_bind,run_underlying hu];exact hr
  simp only[execOp,hop,Sem.run_bind,hx,hlo,hhi,Option.map_none,hA]
  rfl
 unfold a13 at h
 split at h
 ·rename_i a
  split at h
  case h_2=>cases h
  rename_i d n hS hn
  split at h
  case isFalse=>cases h
  rename_i hsz
  obtain⟨el,h1,h2⟩:=Option.bind_eq_some_iff.1 hn
  have hu:=Z7 h1
  have hrd:=M.datAt hS
  obtain⟨aa,cap,hra,hcap,hmax,_⟩:=hrd.open
  rw[hra]at hrd
  have fin:∀(l hh:Nat) (obs:List Prop),l<=hh->hh<=d.len->r=⟨[(id,.dat (d.sub l hh))],[id],.ref id,obs⟩->(Instr.slice t (ρ a) (la.map (AV.val ρ)) (ha.map (AV.val ρ)) none).run P w=.ok (.slice (if cap=l then aa else aa.map (·.add (l*d.sz))) (hh-l) (cap-l)) w->N5 P o g w (K7 φ ψ w0 F ρ S r):=by
   intro l hh obs hl hhd hr hrun
   subst hr
   obtain⟨ρ',p1,p2,p3⟩:=M.newDat (id:=id) (hmk id ao) hin (hrd.sub hl hhd)
   exact .inl ⟨_,_,hexec _ hrun (.inr ⟨el,hu⟩),ρ',p1,p2,p3⟩
  have hsz':(sizeOf el).run P w=.ok d.sz w:=by rw[F8 h2,hsz]
  split at h
  ·cases h
   refine fin 0 d.len _ (cp5 _) (cn4 _) rfl ?_
   simp[Instr.slice,run_underlying hu,hra,Instr.sliceBounds,hsz']
  ·cases h
   simp only[x6]at ho
   refine fin 0 _ _ (cp5 _) al rfl ?_
   rename_i k hh
   have e1:=Q3 (P:=P) (w:=w) (k:=k) (i:=hh) (y:=cap) (c:=.sliceAcap) ho.1 al
   simp[Instr.slice,run_underlying hu,hra,Instr.sliceBounds,hsz',AV.val,e1]
  ·cases h
   simp only[x6]at ho
   refine fin _ d.len _ al (cn4 _) rfl ?_
   rename_i k l
   have e1:=Q3 (P:=P) (w:=w) (k:=k) (i:=l) (y:=d.len) (c:=.sliceB) ho.1 al
   simp[Instr.slice,run_underlying hu,hra,Instr.sliceBounds,hsz',AV.val,e1]
  ·cases h
   simp only[x6]at ho
   refine fin _ _ _ al al rfl ?_
   rename_i k l k' hh
   have e1:=Q3 (P:=P) (w:=w) (k:=k) (i:=l) (y:=hh.toNat) (c:=.sliceB) ho.1 al
   have e2:=Q3 (P:=P) (w:=w) (k:=k') (i:=hh) (y:=cap) (c:=.sliceAcap) al al
   simp[Instr.slice,run_underlying hu,hra,Instr.sliceBounds,hsz',AV.val,e1,e2]
  cases h
 ·rename_i s
  split at h
  case h_2=>cases h
  rename_i hu
  have fin:∀(l hh:Nat) (obs:List Prop),r=⟨[],[],.v (.string (s.extract l hh)),obs⟩->(Instr.slice t (.string s) (la.map (AV.val ρ)) (ha.map (AV.val ρ)) none).run P w=.ok (.string (s.extract l hh)) w->N5 P o g w (K7 φ ψ w0 F ρ S r):=by
   intro l hh obs hr hrun
   subst hr
   exact .inl ⟨_,_,hexec _ hrun (.inl hu),ρ,D4.refl _ _,M,rfl⟩
  split at h
  ·cases h
   simp only[x6]at ho
   refine fin 0 _ _ rfl ?_
   rename_i k hh
   have e1:=Q3 (P:=P) (w:=w) (k:=k) (i:=hh) (y:=s.size) (c:=.sliceAlen) ho.1 al
   simp[Instr.slice,run_underlying hu,Instr.sliceBounds,AV.val,e1]
  ·cases h
   simp only[x6]at ho
   refine fin _ s.size _ rfl ?_
   rename_i k l
   have e1:=Q3 (P:=P) (w:=w) (k:=k) (i:=l) (y:=s.size) (c:=.sliceB) ho.1 al
   simp[Instr.slice,run_underlying hu,Instr.sliceBounds,AV.val,e1]
  ·cases h
   simp only[x6]at ho
   refine fin _ _ _ rfl ?_
   rename_i k l k' hh
   have e1:=Q3 (P:=P) (w:=w) (k:=k) (i:=l) (y:=hh.toNat) (c:=.sliceB) ho.1 al
   have e2:=Q3 (P:=P) (w:=w) (k:=k') (i:=hh) (y:=s.size) (c:=.sliceAlen) al al
   simp[Instr.slice,run_underlying hu,Instr.sliceBounds,AV.val,e1,e2]
  cases h
 cases h
end
section
variable{P:Program}{ι:Type}{φ ψ:Nat->Prop}{w0 w w':World}{F:ι->Rs}{ρ:Nat->Value}{S:Nat->It}
theorem k8.eat{L L':ι->Rs}(M:k8 φ ψ w0 w L)(K:ι->Prop)(i:ι)(ho:∀j,j≠i->¬K j->L' j=L j)(hK:∀j,j≠i->K j->L' j=Rs.none)(hi:K i\/∀b,¬(L i).blk b)
  (hk:C6 (fun b=>¬∃j,K j/\(L j).blk b) w w') (h:(L' i).holds w' (FrF φ L')) (hg:∀g,(L' i).blk g->(∃j,K j/\(L j).blk g)\/w.heap.size<=g):k8 φ ψ w0 w' L':=by
 have old:∀j b,j≠i->(L' j).blk b->¬K j/\(L j).blk b:=fun j b hj hb=>by
  by_cases e:K j
  ·rw[hK j hj e]at hb;exact hb.elim
  rw[ho j hj e]at hb;exact⟨e,hb⟩
 have hfr:∀b,b<w.heap.size->FrF φ L b->FrF φ L' b:=fun b hb hf=>⟨hf.1,fun j hj=>by
  by_cases e:j=i
  ·subst e
   rcases hg b hj with⟨k,_,h2⟩|h2
   ·exact hf.2 k h2
   omega
  exact hf.2 j (old j b e hj).2⟩
 refine⟨⟨hk.os.trans M.kept.os,hk.tape.trans M.kept.tape,hk.output.trans M.kept.output,cp4 M.size hk.size,fun b hb hp=>(hk.block b (cq4 hb M.size) ?_).trans (M.kept.block b hb hp)⟩,M.fresh,M.env,fun j=>?_,fun j k g hjk hj hk'=>?_,fun j b hj=>?_,fun j b hj=>?_⟩
 ·rintro⟨j,_,hj⟩
  rcases M.ge j b hj with h'|h'
  ·omega
  exact h' hp
 ·by_cases e:j=i
  ·subst e;exact h
  by_cases e2:K j
  ·rw[hK j e e2];exact Rs.none_holds _ _
  rw[ho j e e2]
  refine Rs.keep (M.holds j) ⟨hk.size,fun b hb hf=>⟨hfr b hb hf,hk.block b hb ?_⟩⟩ fun g hgx=>hk.block g (M.lt hgx) ?_
  ·rintro⟨k,_,h2⟩;exact hf.2 k h2
  rintro⟨k,h1,h2⟩
  exact M.dis j k g (fun h=>e2 (h▸h1)) hgx h2
 ·by_cases e:j=i
  ·subst e
   obtain⟨n2,h2⟩:=old k g (fun h=>hjk h.symm) hk'
   rcases hg g hj with⟨q,h3,h4⟩|h3
   ·exact M.dis q k g (fun h=>n2 (h▸h3)) h4 h2
   have:=M.lt h2;omega
  obtain⟨n1,h1⟩:=old j g e hj
  by_cases e':k=i
  ·subst e'
   rcases hg g hk' with⟨q,h3,h4⟩|h3
   ·exact M.dis j q g (fun h=>n1 (h▸h3)) h1 h4
   have:=M.lt h1;omega
  exact M.dis j k g hjk h1 (old k g e' hk').2
 ·by_cases e:j=i
  ·subst e
   rcases hg b hj with⟨k,_,h2⟩|h2
   ·exact M.ge k b h2
   exact .inl (cp4 M.size h2)
  exact M.ge j b (old j b e hj).2
 by_cases e:j=i
 ·subst e
  rcases hg b hj with⟨k,_,h2⟩|h2
  ·exact M.ph k b h2
  exact M.fresh b (cp4 M.size h2)
 exact M.ph j b (old j b e hj).2
def Bk(S:Nat->It)(ρ:Nat->Value)(ids:List Nat)(b:Nat):Prop:=∃j∈ids,((S j).res ρ j).blk b
theorem ax8(S:Nat->It)(j:Nat):∀(ids:List Nat),n5 S (ids.map fun i=>(i,It.dead)) j=if j∈ids then It.dead else S j
 |[]=>rfl
 |a::r=>by
  simp only[cq5,n5,cq9]
  rw[ax8 S j r]
  by_cases e:j=a
  ·simp[e]
  simp[e]
theorem k8.graft(M:k8 φ ψ w0 w (n6 F ρ S)){id:Nat}{ids:List Nat}{d:D}{v:Value}{T:Nat->Prop}(hS:S id=.none)(hid:id∉ids)(hi:Inv S ρ [id])(hk:C6 (fun b=>¬Bk S ρ ids b) w w')(hT:F2 w' T d v)(hg:∀b,T b->Bk S ρ ids b\/w.heap.size<=b):
  ∃ρ',D4 [id] ρ ρ'/\k8 φ ψ w0 w' (n6 F ρ' (n5 S ((id,.tree d)::ids.map fun j=>(j,.dead))))/\v=E9 (ρ' id):=by
 obtain⟨x,hx1,hx2⟩:=aN3 v (fun b=>T b/\b<w'.heap.size) w'.heap.size fun b h=>h.2
 have ha:D4 [id] ρ (fun j=>if j=id then x else ρ j):=fun j hj=>by
  have:j≠id:=by simpa using hj
  simp[this]
 refine⟨_,ha,?_,by simp[hx1]⟩
 refine M.eat (fun k=>∃j∈ids,k=.inr j) (.inr id) (fun k hk1 hk2=>?_) (fun k hk1 hk2=>?_) (.inr fun b hb=>by simp only[n6,hS,It.res]at hb;exact hb) ?_ ?_ fun g hg'=>?_
 ·cases k with
  |inl i=>rfl
  |inr j=>
   have h1:j≠id:=fun e=>hk1 (by rw[e])
   have h2:j∉ids:=fun e=>hk2 ⟨j,e,rfl⟩
   simp only[n6,n5,if_neg h1]
   rw[ax8,if_neg h2]
   exact hi _ ha j
 ·obtain⟨j,hj,rfl⟩:=hk2
  have h1:j≠id:=fun e=>hk1 (by rw[e])
  simp only[n6,n5,if_neg h1]
  rw[ax8,if_pos hj];rfl
 ·refine⟨hk.os,hk.tape,hk.output,hk.size,fun b hb hn=>hk.block b hb fun⟨j,h1,h2⟩=>hn ⟨.inr j,⟨j,h1,rfl⟩,h2⟩⟩
 ·simp only[n6,n5,if_true,It.res]
  have e:E3 x=fun b=>T b/\b<w'.heap.size:=funext fun b=>propext (hx2 b)
  rw[hx1,e]
  exact⟨fun _ _ h hs=>h.same hs,hT.cut,fun b hb=>hb.2⟩
 simp only[n6,n5,if_true,It.res]at hg'
 have h1:=(hx2 g).1 hg'
 rcases hg g h1.1 with⟨j,h2,h3⟩|h2
 ·exact .inl ⟨.inr j,⟨j,h2,rfl⟩,h3⟩
 exact .inr h2
def as5(S:Nat->It):AV->Option (List c6×List Nat)
 |.tref id=>match S id with
  |.tree (.exprs l)=>some (l,[id])
  |_=>none
 |.v (.slice none 0 0)=>some ([],[])
 |_=>none
def ay1(S:Nat->It):AV->Option (List c5×List Nat)
 |.tref id=>match S id with
  |.tree (.stmts l)=>some (l,[id])
  |_=>none
 |.v (.slice none 0 0)=>some ([],[])
 |_=>none
def a72(S:Nat->It):AV->Option (List Int×List Nat)
 |.ref id=>match S id with
  |.row e (.ints l)=>if natEq e 3 then some (l,[id])else none
  |_=>none
 |.v (.slice none 0 0)=>some ([],[])
 |_=>none
def bD5(S:Nat->It)(k:Nat)(l:List AV):Option (D×List Nat):=
 match k,l with
 |9,[.v (.int .i64 a),.v (.int .i64 b),x]=>(as5 S x).map fun r=>(.exprs [⟨a,b,r.1⟩],r.2)
 |10,[.v (.int .i64 a),.v (.int .i64 b),.v (.int .i64 c),.v (.int .i64 d),x,.v (.int .i64 e),.v (.int .i64 f),y,.v (.int .i64 g),z,u]=>
  match as5 S x,as5 S y,ay1 S z,ay1 S u with
  |some x,some y,some z,some u=>some (.stmts [⟨a,b,⟨c,d,x.1⟩,⟨e,f,y.1⟩,g,z.1,u.1⟩],x.2++(y.2++(z.2++u.2)))
  |_,_,_,_=>none
 |7,[x]=>(a72 S x).map fun r=>(.rows [r.1],r.2)
 |_,_=>none
theorem bF5(w:World)(T:Nat->Prop):J6 w (.slice none 0 0) [] T:=⟨[],fun _=>False,World.ownsRow_nil _ _ _ _,(fun g hg=>by cases hg),fun _ h=>h.elim,rfl⟩
theorem bx3(w:World)(T:Nat->Prop):M0 w (.slice none 0 0) [] T:=⟨[],fun _=>False,World.ownsRow_nil _ _ _ _,(fun g hg=>by cases hg),fun _ h=>h.elim,rfl⟩
theorem az2(M:k8 φ ψ w0 w (n6 F ρ S)){x:AV}{l:List c6}{ids:List Nat}(h:as5 S x=some (l,ids)):J6 w (x.val ρ) l (Bk S ρ ids):=by
 unfold as5 at h
 split at h<;>first|cases h|skip
 ·rename_i id
  split at h<;>first|cases h|skip
  rename_i hS
  have h1:=(M.treeAt (id:=id) (d:=.exprs l) (by rw[hS];rfl)).1
  exact(F2.kids.1 h1).mono fun b hb=>⟨id,ao,by rw[hS];exact hb⟩
 exact bF5 _ _
theorem aR9(M:k8 φ ψ w0 w (n6 F ρ S)){x:AV}{l:List c5}{ids:List Nat}(h:ay1 S x=some (l,ids)):M0 w (x.val ρ) l (Bk S ρ ids):=by
 unfold ay1 at h
 split at h<;>first|cases h|skip
 ·rename_i id
  split at h<;>first|cases h|skip
  rename_i hS
  have h1:=(M.treeAt (id:=id) (d:=.stmts l) (by rw[hS];rfl)).1
  exact(F2.block.1 h1).mono fun b hb=>⟨id,ao,by rw[hS];exact hb⟩
 exact bx3 _ _
theorem bO1{φ:Nat->Prop}{l:List Int}{xs:List Value}(hl:xs.length=l.length)(h:RW w φ (.ints l) xs):xs=ints l:=by
 apply List.ext_getElem?
 intro j
 by_cases hj:j<l.length
 ·obtain⟨u,h1,h2⟩:=h j hj 0 _ rfl
  simp only[D.sz,Nat.mul_one,Nat.add_zero]at h1
  rw[h1,show u=_ from h2]
  simp[ints,hj]
 rw[cp0 al,cp0 (by simp[ints];omega)]
theorem bG1(M:k8 φ ψ w0 w (n6 F ρ S)){x:AV}{l:List Int}{ids:List Nat}(h:a72 S x=some (l,ids)):w.ownsRow 0 3 1 (x.val ρ) l.length (ints l)/\∀g,(x.val ρ).ownBlock=some g->Bk S ρ ids g:=by
 unfold a72 at h
 split at h<;>first|cases h|skip
 ·rename_i id
  split at h<;>first|cases h|skip
  rename_i e l' hS
  split at h<;>first|cases h|skip
  rename_i he
  have he':e=3:=by simpa[natEq]using he
  subst he'
  obtain⟨xs,h1,h2⟩:=M.rowAt hS
  have h3:xs.length=l.length:=by have:=h1.1;simpa[D.len,D.sz]using this
  rw[bO1 h3 h2]at h1
  exact⟨h1,fun g hg=>⟨id,ao,by rw[hS];exact hg⟩⟩
 exact⟨World.ownsRow_nil _ _ _ _,fun g hg=>by cases hg⟩
theorem aA3(M:k8 φ ψ w0 w (n6 F ρ S)){a b:List Nat}(h:∀x∈a,x∉b){g:Nat}(h1:Bk S ρ a g):¬Bk S ρ b g:=by
 rintro⟨j,hj,hb⟩
 obtain⟨i,hi,ha⟩:=h1
 exact M.dis (.inr i) (.inr j) g (fun e=>h i hi (by cases e;exact hj)) ha hb
theorem bO7(M:k8 φ ψ w0 w (n6 F ρ S)){k:Nat}{l:List AV}{d:D}{ids:List Nat}(h:bD5 S k l=some (d,ids))(hn:ids.Nodup):d.len=1/\d.sz=l.length/\S7 w d (Bk S ρ ids) (AV.vals ρ l):=by
 unfold bD5 at h
 split at h<;>first|cases h|skip
 ·rename_i a b x
  obtain⟨r,h1,h2⟩:=cn9.1 h
  cases h2
  refine⟨rfl,rfl,?_⟩
  simp only[S7]
  exact⟨_,[],Bk S ρ r.2,fun _=>False,(List.append_nil _).symm,fun b hb=>⟨hb,fun h=>h⟩,fun b hb=>hb.elim,(F3.iff _ _ _).2 ⟨_,rfl,az2 M h1⟩,rfl⟩
 ·rename_i a b c d x e f y g z u
  split at h<;>first|cases h|skip
  rename_i rx ry rz ru hx hy hz hu
  refine⟨rfl,rfl,?_⟩
  simp only[List.nodup_append,cp2]at hn
  obtain⟨-,⟨-,⟨-,-,n3⟩,n2⟩,n1⟩:=hn
  have d1:∀q∈rx.2,q∉ry.2:=fun q h1 h2=>n1 q h1 q (.inl h2) rfl
  have d2:∀q∈rx.2,q∉rz.2:=fun q h1 h2=>n1 q h1 q (.inr (.inl h2)) rfl
  have d3:∀q∈rx.2,q∉ru.2:=fun q h1 h2=>n1 q h1 q (.inr (.inr h2)) rfl
  have d4:∀q∈ry.2,q∉rz.2:=fun q h1 h2=>n2 q h1 q (.inl h2) rfl
  have d5:∀q∈ry.2,q∉ru.2:=fun q h1 h2=>n2 q h1 q (.inr h2) rfl
  have d6:∀q∈rz.2,q∉ru.2:=fun q h1 h2=>n3 q h1 q h2 rfl
  have up:∀(s:List Nat),(∀q∈s,q∈rx.2++(ry.2++(rz.2++ru.2)))->∀b,Bk S ρ s b->Bk S ρ (rx.2++(ry.2++(rz.2++ru.2))) b:=fun s hs b ⟨j,h1,h2⟩=>⟨j,hs j h1,h2⟩
  simp only[S7]
  refine⟨_,[],Bk S ρ (rx.2++(ry.2++(rz.2++ru.2))),fun _=>False,(List.append_nil _).symm,fun b hb=>⟨hb,fun h=>h⟩,fun b hb=>hb.elim,(H2.iff _ _ _).2 ⟨_,_,_,_,Bk S ρ rx.2,Bk S ρ ry.2,Bk S ρ rz.2,Bk S ρ ru.2,rfl,⟨fun b hb=>⟨up _ (fun q hq=>by simp[hq]) b hb,aA3 M d1 hb,aA3 M d2 hb,aA3 M d3 hb⟩,fun b hb=>⟨up _ (fun q hq=>by simp[hq]) b hb,aA3 M d4 hb,aA3 M d5 hb⟩,fun b hb=>⟨up _ (fun q hq=>by simp[hq]) b hb,aA3 M d6 hb⟩,fun b hb=>up _ (fun q hq=>by simp[hq]) b hb⟩,az2 M hx,az2 M hy,aR9 M hz,aR9 M hu⟩,rfl⟩
 rename_i x
 obtain⟨r,h1,h2⟩:=cn9.1 h
 cases h2
 obtain⟨k1,k2⟩:=bG1 M h1
 refine⟨rfl,rfl,?_⟩
 simp only[S7]
 exact⟨_,[],fun _=>False,rfl,k1,fun g hg=>⟨k2 g hg,fun h=>h⟩,fun b hb=>hb.elim,rfl⟩
def ax9(d:D)(el:TypeId):Bool:=match ap7 d with
 |some e=>natEq e el
 |none=>false
theorem aa1{d:D}{el:TypeId}(h:ax9 d el=true):ap7 d=some el:=by
 unfold ax9 at h
 split at h
 ·rename_i e he;rw[he,show e=el by simpa[natEq]using h]
 cases h
def af1(P:Program)(dk:TypeId->Nat)(e:Operand->Option AV)(S:Nat->It)(id:Nat)(t:TypeId)(len:Nat)(parts:List (Nat×Operand)):Option Tr:=
 match U7 P t with
 |none=>none
 | some el =>
  match Z3 P el,L7 P el with
  | some n, some z =>
   if 0<n&&z.cells.size=n&&len=1&&parts.length=1&&n<=16777216 then
    match af7 e S n 0 parts with
    |some [c]=>match bD5 S (dk el) c with
     |some (d,ids)=>if nodupB ids&&ax9 d el then some ⟨(id,.tree d)::ids.map fun j=>(j,.dead),[id],.tref id,[]⟩else none
     |none=>none
    |_=>none
   else none
  |_,_=>none
where nodupB:List Nat->Bool
 |[]=>true
 |x::r=> !(r.any (natEq x))&&nodupB r
theorem bf9{l:List Nat}(h:af1.nodupB l=true):l.Nodup:=by
 induction l with
 |nil=>simp
 |cons x r ih=>
  simp only[af1.nodupB,cm9,co9]at h
  refine List.nodup_cons.2 ⟨fun hm=>?_,ih h.2⟩
  have:r.any (natEq x)=true:=List.any_eq_true.2 ⟨x,hm,by simp[natEq]⟩
  rw[this]at h;cases h.1
theorem bx1(M:k8 φ ψ w0 w (n6 F ρ S)){dk:TypeId->Nat}{o:Oper}{e:Operand->Option AV}{g:Operand->Value}{t:TypeId}{len:Nat}{parts:Array (Nat×Operand)}(hop:o.op=.buildSlice t len parts)(hg:∀p∈parts.toList,∀v,e p.2=some v->g p.2=v.val ρ){id:Nat}{r:Tr}(h:af1 P dk e S id t len parts.toList=some r)(hmk:∀j∈r.made,S j=.none)(hi:Inv S ρ r.made):
  N5 P o g w (K7 φ ψ w0 F ρ S r):=by
 unfold af1 at h
 split at h<;>first|cases h|skip
 rename_i el hel
 split at h<;>first|cases h|skip
 rename_i n z h1 h2
 split at h
 case isFalse=>cases h
 rename_i hc
 simp only[cm9,decide_eq_true_eq]at hc
 obtain⟨⟨⟨⟨hn,hz⟩,hlen⟩,hpl⟩,hbig⟩:=hc
 split at h<;>first|cases h|skip
 rename_i c hl
 split at h<;>first|cases h|skip
 rename_i d ids h4
 split at h
 case isFalse=>cases h
 rename_i hcc
 simp only[cm9]at hcc
 cases h
 subst hlen
 obtain⟨k1,k2⟩:=ar7 hl
 obtain⟨m1,m2,m3⟩:=bO7 M h4 (bf9 hcc.1)
 have hte:=aa1 hcc.2
 have hsz:d.sz=n:=by rw[m2];exact k2 c ao
 have hS:S id=.none:=hmk id ao
 obtain⟨ie,hie,hie2⟩:=cn9.1 h1
 have hiz:ie.zero=some z:=by
  unfold L7 at h2;rw[hie]at h2;exact h2
 have hu:=Z7 hel
 have hvl:(AV.vals ρ c).length=1*n:=by rw[AV.vals_length,k2 c ao,Nat.one_mul]
 have hrun:(Instr.buildSlice t 1 (parts.map fun p=>(p.1,g p.2))).run P w=.ok (.slice (some ⟨w.heap.size,0,none⟩) 1 1) (w.alloc (.cells (AV.vals ρ c).toArray el)):=by
  refine run_buildSlice w t el 1 _ _ ie z hu hie hiz al (by rw[hie2];omega) ?_
  have hf:=ak7 M parts.toList 0 [c] [] (((Array.range (1*ie.size)).map (z.cells[· %z.cells.size]!)).toList) hl hg ao (by simp[hie2,hpl])
  rw[hie2]at hf ⊢
  simp only[List.nil_append,Array.toArray_toList,List.flatten_cons,List.flatten_nil,List.append_nil]at hf
  simpa using hf
 have hown:=(z6 w (g:=w.heap.size) (AV.vals ρ c).toArray 1 n el rfl (by simpa using hvl) al).1
 have hb:Below w.heap.size w (w.alloc (.cells (AV.vals ρ c).toArray el)):=(Below.refl _ _).alloc (cn4 _) _
 have hbk:∀j∈ids,∀b,((S j).res ρ j).blk b->b<w.heap.size:=fun j _ b hb=>M.lt (i:=.inr j) hb
 obtain⟨ρ',q1,q2,q3⟩:=M.graft (id:=id) (ids:=ids) (d:=d) (v:=.slice (some ⟨w.heap.size,0,none⟩) 1 1) (T:=fun b=>Bk S ρ ids b\/b=w.heap.size) hS (fun hm=>by
   have:∀(k:Nat) (l:List AV) (r:D×List Nat),bD5 S k l=some r->∀j∈r.2,S j≠ .none:=by
    intro k l r h j hj
    have hE:∀{x:AV} {q:List c6×List Nat},as5 S x=some q->∀j∈q.2,S j≠ .none:=by
     intro x q h j hj
     unfold as5 at h
     split at h<;>first|cases h|skip
     ·split at h<;>first|cases h|skip
      rename_i hS;simp at hj;subst hj;rw[hS];intro h;cases h
     cases hj
    have hT:∀{x:AV} {q:List c5×List Nat},ay1 S x=some q->∀j∈q.2,S j≠ .none:=by
     intro x q h j hj
     unfold ay1 at h
     split at h<;>first|cases h|skip
     ·split at h<;>first|cases h|skip
      rename_i hS;simp at hj;subst hj;rw[hS];intro h;cases h
     cases hj
    have hI:∀{x:AV} {q:List Int×List Nat},a72 S x=some q->∀j∈q.2,S j≠ .none:=by
     intro x q h j hj
     unfold a72 at h
     split at h<;>first|cases h|skip
     ·split at h<;>first|cases h|skip
      split at h<;>first|cases h|skip
      rename_i hS _;simp at hj;subst hj;rw[hS];intro h;cases h
     cases hj
    unfold bD5 at h
    split at h<;>first|cases h|skip
    ·obtain⟨q,h1,h2⟩:=cn9.1 h
     cases h2;exact hE h1 j hj
    ·split at h<;>first|cases h|skip
     rename_i hx hy hz hu
     simp only[cp2]at hj
     rcases hj with hj|hj|hj|hj
     ·exact hE hx j hj
     ·exact hE hy j hj
     ·exact hT hz j hj
     exact hT hu j hj
    obtain⟨q,h1,h2⟩:=cn9.1 h
    cases h2;exact hI h1 j hj
   exact this _ _ _ h4 id hm hS) hi (C6.any hb)
  ⟨el,_,Bk S ρ ids,hte,by rw[m1,hsz];exact N9 hown (cp5 _),fun g hg=>by
   cases hg
   exact⟨.inr rfl,fun⟨j,h1,h2⟩=>Nat.lt_irrefl _ (hbk j h1 _ h2)⟩,fun b hb=>.inl hb,by
   simpa using m3.same (w':=w.alloc (.cells (AV.vals ρ c).toArray el)) fun b _ hlt=>hb.block b hlt⟩
  (fun b hb=>hb.imp (fun h=>h) fun h=>by omega)
 have hrun2:(execOp g o).run P w=.ok (.value (.slice (some ⟨w.heap.size,0,none⟩) 1 1)) (w.alloc (.cells (AV.vals ρ c).toArray el)):=by
  simp only[execOp,hop,Sem.run_bind]
  rw[show(parts.map fun(i,x)=>(i,g x))=parts.map fun p=>(p.1,g p.2)from rfl,hrun]
  rfl
 exact .inl ⟨_,_,hrun2,ρ',q1,q2,by simp only[AV.val];exact q3⟩
def aA2(P:Program)(dk:TypeId->Nat)(id:Nat)(t:TypeId)(len:Nat)(parts:List (Nat×Operand)):Option Tr:=
 match U7 P t with
 |none=>none
 | some el =>
  match Z3 P el,L7 P el,D.nil (dk el)with
  |some n,some z,some d=>
   if 0<n&&z.cells.size=n&&d.sz=n&&natEq len 0&&natEq parts.length 0&&ax9 d el&&decide (9<=dk el)then some ⟨[(id,.tree d)],[id],.tref id,[]⟩else none
  |_,_,_=>none
theorem bM4{k:Nat}{d:D}(h:D.nil k=some d)(h9:9<=k)(w:World)(T:Nat->Prop):S7 w d T []:=by
 unfold D.nil at h
 split at h<;>first|omega|skip
 ·cases h;rfl
 ·cases h;rfl
 cases h
theorem bx2(M:k8 φ ψ w0 w (n6 F ρ S)){dk:TypeId->Nat}{o:Oper}{g:Operand->Value}{t:TypeId}{len:Nat}{parts:Array (Nat×Operand)}(hop:o.op=.buildSlice t len parts){id:Nat}{r:Tr}(h:aA2 P dk id t len parts.toList=some r)(hmk:∀j∈r.made,S j=.none)(hi:Inv S ρ r.made):
  N5 P o g w (K7 φ ψ w0 F ρ S r):=by
 unfold aA2 at h
 split at h<;>first|cases h|skip
 rename_i el hel
 split at h<;>first|cases h|skip
 rename_i n z d h1 h2 h3
 split at h
 case isFalse=>cases h
 rename_i hc
 simp only[cm9,decide_eq_true_eq,natEq,beq_iff_eq]at hc
 obtain⟨⟨⟨⟨⟨⟨hn,hz⟩,hsz⟩,hlen⟩,hpl⟩,ht⟩,h9⟩:=hc
 cases h
 subst hlen
 have hp0:parts= #[]:=by
  apply Array.ext'
  exact co7 hpl
 subst hp0
 have hte:=aa1 ht
 have hd0:=D.nil_len h3
 have hS:S id=.none:=hmk id ao
 obtain⟨ie,hie,hie2⟩:=cn9.1 h1
 have hiz:ie.zero=some z:=by
  unfold L7 at h2;rw[hie]at h2;exact h2
 have hu:=Z7 hel
 have hrun:(Instr.buildSlice t 0 (#[]:Array (Nat×Value))).run P w=.ok (.slice (some ⟨w.heap.size,0,none⟩) 0 0) (w.alloc (.cells #[] el)):=by
  have hr0:Array.range 0= #[]:=rfl
  simp[Instr.buildSlice,run_underlying hu,sizeOf,typeInfo,hie,Instr.fill,newRow,hr0]
 have hown:=(z6 w (g:=w.heap.size) (#[]:Array Value) 0 n el rfl ao al).1
 have hb:Below w.heap.size w (w.alloc (.cells #[] el)):=(Below.refl _ _).alloc (cn4 _) _
 obtain⟨ρ',q1,q2,q3⟩:=M.graft (id:=id) (ids:=[]) (d:=d) (v:=.slice (some ⟨w.heap.size,0,none⟩) 0 0) (T:=fun b=>b=w.heap.size) hS ao hi (C6.any hb)
  ⟨el,[],fun _=>False,hte,by rw[hd0,hsz];exact N9 hown (cp5 _),fun g hg=>by
   cases hg
   exact⟨rfl,fun h=>h⟩,fun b hb=>hb.elim,bM4 h3 h9 _ _⟩
  (fun b hb=>.inr al)
 have hrun2:(execOp g o).run P w=.ok (.value (.slice (some ⟨w.heap.size,0,none⟩) 0 0)) (w.alloc (.cells #[] el)):=by
  simp only[execOp,hop,Sem.run_bind,List.map_toArray,List.map_nil,hrun]
  rfl
 exact .inl ⟨_,_,hrun2,ρ',q1,q2,by simp only[AV.val];exact q3⟩
def a17(P:Program)(S:Nat->It)(id:Nat)(t t':TypeId)(s x:AV):Option Tr:=
 if t=t' then
  match U7 P t,x with
  | some el, .tref b =>
   match S b,am7 P el,Z3 P el,L7 P el with
   | .tree d2, some by_, some n, some z =>
    if 0<n&&z.cells.size=n&&d2.sz=n&&ax9 d2 el then
     match s with
     |.tref a=>if natEq a b then none else match S a with
      |.tree d1=>if ax9 d1 el then(d1.app d2).map fun d=>⟨(id,.tree d)::[a,b].map fun j=>(j,.dead),[id],.tref id,[d1.len+d2.len<=9223372036854775807,(d1.len+d2.len)*by_<=140737488355328]⟩else none
      |_=>none
     |.v (.slice none 0 0)=>some ⟨(id,.tree d2)::[b].map fun j=>(j,.dead),[id],.tref id,[d2.len<=9223372036854775807,d2.len*by_<=140737488355328]⟩
     |_=>none
    else none
   |_,_,_,_=>none
  |_,_=>none
 else none
theorem be4{v:Value}{n sz:Nat}{xs ys:List Value}(h:I6 w v n sz xs)(k:I6 w v n sz ys):xs=ys:=by
 obtain⟨h0,a,cap,rfl,_,_,h1⟩:=h
 obtain⟨k0,a',cap',he,_,_,k1⟩:=k
 cases he
 apply List.ext_getElem?
 intro j
 by_cases hj:j<n*sz
 ·have hn:0<n:=Nat.pos_of_ne_zero fun h=>by subst h;simp at hj
  obtain⟨b,off,rfl,_,h2⟩:=h1 hn
  obtain⟨b',off',he,_,k2⟩:=k1 hn
  cases he
  have e1:=h2 j _ (cn0 al)
  have e2:=k2 j _ (cn0 al)
  rw[e1]at e2
  rw[cn0 al,cn0 al];exact e2
 rw[cp0 al,cp0 al]
theorem S7.app{d1 d2 d:D}{S T S':Nat->Prop}{xs ys:List Value}(h:d1.app d2=some d)(h1:S7 w d1 S xs)(h2:S7 w d2 T ys)(h3:∀x,S x->S' x/\¬T x)(h4:∀x,T x->S' x):S7 w d S' (xs++ys):=by
 cases d1<;>cases d2<;>simp only[D.app]at h<;>first|cases h|skip
 all_goals simp only[S7]at h1 h2 ⊢
 ·exact h1.app h2 h3 h4
 ·exact s4.app h1 h2 h3 h4
 exact p8.app h1 h2 h3 h4
theorem bs5{d1 d2 d:D}(h:d1.app d2=some d):ap7 d=ap7 d1:=by
 cases d1<;>cases d2<;>simp only[D.app]at h<;>first|cases h|skip
 all_goals rfl
theorem bT1(M:k8 φ ψ w0 w (n6 F ρ S)){o:Oper}{g:Operand->Value}{t t':TypeId}{s x:Operand}(hop:o.op=.call {callee:=.builtin .append,args:= #[s,x],argTypes:= #[t,t']}){sa xa:AV}(hs:g s=sa.val ρ)(hx:g x=xa.val ρ){id:Nat}{r:Tr}(h:a17 P S id t t' sa xa=some r)(ho:x6 r.obs)(hmk:∀j∈r.made,S j=.none)(hi:Inv S ρ r.made):
  N5 P o g w (K7 φ ψ w0 F ρ S r):=by
 unfold a17 at h
 split at h
 case isFalse=>cases h
 rename_i htt
 subst htt
 split at h<;>first|cases h|skip
 rename_i el b hel
 split at h<;>first|cases h|skip
 rename_i d2 by_ n z hSb h2 h3 h4
 split at h
 case isFalse=>cases h
 rename_i hc
 simp only[cm9,decide_eq_true_eq]at hc
 obtain⟨⟨⟨hn,hz⟩,hd2⟩,ht2⟩:=hc
 have hu:=Z7 hel
 obtain⟨ie,hie,hie2⟩:=cn9.1 h3
 have hiz:ie.zero=some z:=by unfold L7 at h4;rw[hie]at h4;exact h4
 have hib:ie.bytes=by_:=by
  unfold am7 at h2;rw[hie]at h2;exact Option.some.inj h2
 have hinfo:(P.info? el).map (fun i=>(i.zero,i.size,i.bytes))=some (some z,n,by_):=by rw[hie];simp[hiz,hie2,hib]
 obtain⟨hTb,hltb⟩:=M.treeAt (id:=b) (d:=d2) (by rw[hSb];rfl)
 have hrd:=F2.read (φ:=fun _=>True) hTb fun _ _=>trivial
 obtain⟨e2,news,S2,f0,f1,f2,f3,f4⟩:=hTb
 rw[aa1 ht2]at f0;cases f0
 have k1:=R4 f1
 have h1c:∀u∈news,u.oneCell'=true:=by
  obtain⟨xs',r1,r2⟩:=hrd.split
  rw[be4 k1 r1.row]
  exact a49 r1.1 r2
 rw[hd2]at k1
 have hexec:∀v w',(Builtin.append_ #[t,t] o.type #[sa.val ρ,AV.val ρ (.tref b)]).run P w=.ok v w'->(execOp g o).run P w=.ok (.value v) w':=by
  intro v w' hr
  simp only[execOp,hop,resolve,invoke,builtin,Sem.run_bind,Sem.run_pure,Result.andThen_ok,List.map_toArray,cq5,List.map_nil,hs,hx,hr]
 have hbk:∀c,E3 (ρ b) c->((S b).res ρ b).blk c:=fun c hc=>by rw[hSb];exact hc
 split at h
 ·rename_i a
  split at h
  case isTrue=>cases h
  rename_i hab
  have hab':a≠b:=by simpa[natEq]using hab
  split at h<;>first|cases h|skip
  rename_i d1 hSa
  split at h
  case isFalse=>cases h
  rename_i ht1
  obtain⟨d,hd,hr⟩:=cn9.1 h
  subst hr
  simp only[x6]at ho
  obtain⟨q1,q2,q3,q4⟩:=D.app_ok hd
  obtain⟨hTa,hlta⟩:=M.treeAt (id:=a) (d:=d1) (by rw[hSa];rfl)
  obtain⟨e1,xs,S1,g0,g1,g2,g3,g4⟩:=hTa
  rw[aa1 ht1]at g0;cases g0
  have hak:∀c,E3 (ρ a) c->((S a).res ρ a).blk c:=fun c hc=>by rw[hSa];exact hc
  have hdis:∀c,E3 (ρ a) c->¬E3 (ρ b) c:=fun c h1 h2=>M.dis (.inr a) (.inr b) c (fun e=>hab' (by cases e;rfl)) (hak c h1) (hbk c h2)
  have hsz:d1.sz=n:=al
  rw[hsz]at g1
  obtain⟨a',k',w',hrun,r2,r3,r4,r5⟩:=au7 (P:=P) (lo:=0) (ty:=o.type) hu hinfo hz hn g1 k1 h1c ho.1 ho.2.1 (cp5 _)
  have hkeep:∀c,c<w.heap.size->(E9 (ρ a)).ownBlock≠some c->w'.heap[c]? =w.heap[c]? :=fun c hc hne=>r4.block c hc fun h=>hne h.symm
  obtain⟨ρ',p1,p2,p3⟩:=M.graft (id:=id) (ids:=[a,b]) (d:=d) (v:=.slice a' (d1.len+d2.len) k') (T:=fun c=>E3 (ρ a) c\/E3 (ρ b) c\/(w.heap.size<=c/\(Value.slice a' (d1.len+d2.len) k').ownBlock=some c)) (hmk id ao)
   (fun hm=>by
    have h0:=hmk id ao
    simp only[cq9,List.not_mem_nil,or_false]at hm
    rcases hm with rfl|rfl
    ·rw[hSa]at h0;cases h0
    rw[hSb]at h0;cases h0) hi
   ⟨r4.os,r4.tape,r4.output,r4.size,fun c hc hne=>hkeep c hc fun he=>hne ⟨a,ao,hak c (g2 c he).1⟩⟩
   ⟨el,xs++news,fun c=>S1 c\/S2 c,by rw[bs5 hd,aa1 ht1],by rw[q2,hsz,q1];exact r2,fun c hc=>by
    rcases r5 c hc with h|h
    ·exact⟨.inl (g2 c h).1,fun hh=>hh.elim (g2 c h).2 fun h2=>hdis c (g2 c h).1 (f3 c h2)⟩
    ·exact⟨.inr (.inr ⟨h,hc⟩),fun hh=>hh.elim (fun h2=>by have:=hlta c (g3 c h2);omega) fun h2=>by have:=hltb c (f3 c h2);omega⟩,
    fun c hc=>hc.imp (g3 c) fun h=>.inl (f3 c h),by
    refine S7.app hd (g4.same fun c hc hlt=>hkeep c hlt fun he=>(g2 c he).2 hc) (f4.same fun c hc hlt=>hkeep c hlt fun he=>hdis c (g2 c he).1 (f3 c hc)) (fun c hc=>⟨.inl hc,fun h2=>hdis c (g3 c hc) (f3 c h2)⟩) fun c hc=>.inr hc⟩
   (fun c hc=>by
    rcases hc with h|h|h
    ·exact .inl ⟨a,ao,hak c h⟩
    ·exact .inl ⟨b,ao,hbk c h⟩
    exact .inr h.1)
  exact .inl ⟨_,_,hexec _ _ hrun,ρ',p1,p2,p3⟩
 ·cases h
  simp only[x6]at ho
  obtain⟨a',k',w',hrun,r2,r3,r4,r5⟩:=au7 (P:=P) (lo:=w.heap.size) (ty:=o.type) hu hinfo hz hn (World.ownsRow_nil _ _ _ _) k1 h1c al (by rw[cr4];exact ho.2.1) (cn4 _)
  rw[cr4,List.nil_append]at r2
  obtain⟨ρ',p1,p2,p3⟩:=M.graft (id:=id) (ids:=[b]) (d:=d2) (v:=.slice a' (0+d2.len) k') (w':=w') (T:=fun c=>E3 (ρ b) c\/(w.heap.size<=c/\(Value.slice a' (0+d2.len) k').ownBlock=some c)) (hmk id ao)
   (fun hm=>by
    have h0:=hmk id ao
    simp only[cq9,List.not_mem_nil,or_false]at hm
    subst hm
    rw[hSb]at h0;cases h0) hi (C6.any r3)
   ⟨el,news,S2,aa1 ht2,by rw[hd2,cr4];exact N9 r2 (cp5 _),fun c hc=>by
    rcases r5 c hc with h|h
    ·cases h
    exact⟨.inr ⟨h,hc⟩,fun h2=>by have:=hltb c (f3 c h2);omega⟩,fun c hc=>.inl (f3 c hc),f4.same fun c _ hlt=>r3.block c hlt⟩
   (fun c hc=>hc.imp (fun h=>⟨b,ao,hbk c h⟩) fun h=>h.1)
  exact .inl ⟨_,_,hexec _ _ hrun,ρ',p1,p2,p3⟩
 cases h
theorem a30(S:Nat->It)(l2:List (Nat×It)):∀(l1:List (Nat×It)) (j:Nat),n5 (n5 S l2) l1 j=n5 S (l1++l2) j
 |[],_=>rfl
 |(k,x)::r,j=>by
  simp only[n5,List.cons_append]
  rw[a30 S l2 r j]
theorem k8.rowDat(M:k8 φ ψ w0 w (n6 F ρ S)){a:Nat}{el:TypeId}{d:D}(hS:S a=.row el d):k8 φ ψ w0 w (n6 F ρ (n5 S [(a,.dat d)])):=by
 obtain⟨xs,h1,h2⟩:=M.rowAt hS
 have e0:n5 S [(a,.dat d)] a=.dat d:=by simp[n5]
 have e1:∀j,j≠a->n5 S [(a,.dat d)] j=S j:=fun j h=>by simp[n5,h]
 generalize n5 S [(a,.dat d)]=S' at e0 e1
 have hoth:∀k:ι ⊕ Nat,k≠ .inr a->n6 F ρ S' k=n6 F ρ S k:=fun k hk=>by
  cases k with
  |inl q=>rfl
  |inr j=>
   have:j≠a:=fun e=>hk (by rw[e])
   simp only[n6];rw[e1 j this]
 have hno:∀g,¬(n6 F ρ S' (.inr a)).blk g:=fun g hg=>by
  simp only[n6]at hg
  rw[e0]at hg;exact hg
 refine M.put (.inr a) hoth (C6.refl _ _) ?_ fun g hg=>(hno g hg).elim
 show(((S' a).res ρ a)).holds w _
 rw[e0]
 refine⟨RD.nice _ _,?_⟩
 have hfr:∀b,FrF φ (n6 F ρ S) b->FrF φ (n6 F ρ S') b:=fun b hb=>⟨hb.1,fun k hk=>by
  by_cases e:k=.inr a
  ·subst e;exact hno b hk
  rw[hoth k e]at hk;exact hb.2 k hk⟩
 refine RD.make (A9 h1 fun g hg=>?_) (RW.nice _ _ _ _ _ _ (Agr.mono fun b _ hb=>hfr b hb) h2)
 have ho:(n6 F ρ S (.inr a)).blk g:=by simp only[n6];rw[hS];exact hg
 refine⟨M.ph _ _ ho,fun k hk=>?_⟩
 by_cases e:k=.inr a
 ·subst e;exact hno g hk
 rw[hoth k e]at hk
 exact M.dis _ _ g (fun h=>e h.symm) ho hk
def az5(P:Program)(S:Nat->It)(id:Nat)(t:TypeId)(x:AV)(lo hi:Option AV):Option Tr:=
 match x with
 |.ref a=>match S a with
  |.row _ d=>(a13 P (n5 S [(a,.dat d)]) id t x lo hi).map fun r=>⟨r.new++[(a,.dat d)],r.made,r.res,r.obs⟩
  |_=>none
 |_=>none
theorem bv1(M:k8 φ ψ w0 w (n6 F ρ S)){o:Oper}{g:Operand->Value}{t:TypeId}{x:Operand}{lo hi:Option Operand}{e:Operand->Option AV}(hop:o.op=.slice t x lo hi none){xa:AV}(hx:g x=xa.val ρ){la ha:Option AV}(hlo:lo.map g=la.map (AV.val ρ))(hhi:hi.map g=ha.map (AV.val ρ)){id:Nat}{r:Tr}(h:az5 P S id t xa la ha=some r)(ho:x6 r.obs)(hmk:∀j∈r.made,S j=.none)(hin:Inv S ρ r.made):
  N5 P o g w (K7 φ ψ w0 F ρ S r):=by
 unfold az5 at h
 split at h<;>first|cases h|skip
 rename_i a
 split at h<;>first|cases h|skip
 rename_i el d hS
 obtain⟨r',h1,h2⟩:=cn9.1 h
 subst h2
 have ha:∀j∈r'.made,j≠a:=fun j hj e=>by
  have:=hmk j hj
  rw[e,hS]at this;cases this
 have hin':Inv (n5 S [(a,.dat d)]) ρ r'.made:=fun ρ' hag j=>by
  simp only[n5]
  split
  ·rename_i e
   subst e
   have:=hin ρ' hag j
   refine It.res_congr _ (fun i hi=>by cases hi) (.inr (.inr (hag j fun hm=>ha j hm rfl)))
  exact hin ρ' hag j
 have D1:=bI5 (e:=e) (M.rowDat hS) hop hx hlo hhi h1 ho (fun j hj=>by
  simp only[n5]
  rw[if_neg (ha j hj)]
  exact hmk j hj) hin'
 refine D1.mono fun v w' ⟨ρ',q1,q2,q3⟩=>⟨ρ',q1,?_,q3⟩
 have e2:n5 S (r'.new++[(a,.dat d)])=n5 (n5 S [(a,.dat d)]) r'.new:=funext fun j=>(a30 S _ _ j).symm
 simp only
 rw[e2];exact q2
def ao2(P:Program)(S:Nat->It)(id:Nat)(t:TypeId)(x:AV)(lo hi:Option AV):Option Tr:=match a13 P S id t x lo hi with
 |some r=>some r
 |none=>az5 P S id t x lo hi
theorem aF6(M:k8 φ ψ w0 w (n6 F ρ S)){o:Oper}{g:Operand->Value}{t:TypeId}{x:Operand}{lo hi:Option Operand}{e:Operand->Option AV}(hop:o.op=.slice t x lo hi none){xa:AV}(hx:g x=xa.val ρ){la ha:Option AV}(hlo:lo.map g=la.map (AV.val ρ))(hhi:hi.map g=ha.map (AV.val ρ)){id:Nat}{r:Tr}(h:ao2 P S id t xa la ha=some r)(ho:x6 r.obs)(hmk:∀j∈r.made,S j=.none)(hin:Inv S ρ r.made):
  N5 P o g w (K7 φ ψ w0 F ρ S r):=by
 unfold ao2 at h
 split at h
 ·rename_i r' h1
  cases h
  exact bI5 (e:=e) M hop hx hlo hhi h1 ho hmk hin
 exact bv1 (e:=e) M hop hx hlo hhi h ho hmk hin
end
section
variable{P:Program}{ι:Type}{φ ψ:Nat->Prop}{w0 w w':World}{F:ι->Rs}{ρ:Nat->Value}{S:Nat->It}
theorem bx9{φ:Nat->Prop}{k n:Nat}{d:D}{z:Value}(h:bc0 k n=some (d,z)):d.len=n/\d.sz=1/\z.cells= #[z]/\RW w φ d (cm8 n z):=by
 have key:∀(d:D) (z:Value),d.len=n->d.sz=1->(∀i,i<n->∃x,d.elem i=[x]/\XH w φ x z)->RW w φ d (cm8 n z):=by
  intro d z h1 h2 h3 i hi j x hx
  obtain⟨y,hy,hz⟩:=h3 i al
  rw[hy]at hx
  cases j with
  |zero=>simp at hx;subst hx;exact⟨z,by rw[h1]at hi;rw[h2,Nat.mul_one,Nat.add_zero,cr1,if_pos hi],hz⟩
  |succ j=>simp at hx
 unfold bc0 at h
 split at h<;>first|cases h|skip
 ·exact⟨by simp[D.len],rfl,rfl,key _ _ (by simp[D.len]) rfl fun i hi=>⟨_,rfl,by simp[XH,hi]⟩⟩
 ·exact⟨by simp[D.len],rfl,rfl,key _ _ (by simp[D.len]) rfl fun i hi=>⟨_,rfl,by simp[XH,hi]⟩⟩
 ·exact⟨by simp[D.len],rfl,rfl,key _ _ (by simp[D.len]) rfl fun i hi=>⟨_,rfl,by simp[XH,hi]⟩⟩
 ·exact⟨by simp[D.len],rfl,rfl,key _ _ (by simp[D.len]) rfl fun i hi=>⟨_,rfl,by simp only[XH,cn2,cr1,hi,if_true,Option.getD_some];exact A4.nil _ _ _⟩⟩
 exact⟨by simp[D.len],rfl,rfl,key _ _ (by simp[D.len]) rfl fun i hi=>⟨_,rfl,by simp only[XH,cn2,cr1,hi,if_true,Option.getD_some];exact A4.nil _ _ _⟩⟩
theorem bP2(M:k8 φ ψ w0 w (n6 F ρ S)){dk:TypeId->Nat}{o:Oper}{g:Operand->Value}{t:TypeId}{l c:Operand}(hop:o.op=.makeSlice t l c){la ca:AV}(hl:g l=la.val ρ)(hc:g c=ca.val ρ){id:Nat}{r:Tr}(h:aZ3 P dk id t la ca=some r)(ho:x6 r.obs)(hmk:∀j∈r.made,S j=.none)(hi:Inv S ρ r.made):
  N5 P o g w (K7 φ ψ w0 F ρ S r):=by
 unfold aZ3 at h
 split at h
 case h_2=>cases h
 rename_i n m el hel
 split at h
 case h_2=>cases h
 rename_i d z by_ sz z' h1 h2 h3 h4
 split at h
 case isFalse=>cases h
 rename_i hsz
 cases h
 simp only[x6]at ho
 obtain⟨hm,hn,hb,hbig,hzz,-⟩:=ho
 subst hm;subst hzz;subst hsz
 obtain⟨k1,k2,k3,k4⟩:=bx9 (w:=w) (φ:=FrF φ (n6 F ρ S)) h1
 obtain⟨ie,hie,hie2⟩:=cn9.1 h3
 have hiz:ie.zero=some z':=by unfold L7 at h4;rw[hie]at h4;exact h4
 have hib:ie.bytes=by_:=by
  unfold am7 at h2;rw[hie]at h2;exact Option.some.inj h2
 have hinfo:(P.info? el).map (fun i=>(i.zero,i.size,i.bytes))=some (some z',1,by_):=by rw[hie];simp[hiz,hie2,hib]
 have hb':by_*m.toNat<=281474976710656:=by
  have:((by_*m.toNat:Nat):Int)=by_*m:=by rw[Int.natCast_mul,Int.toNat_of_nonneg hn]
  omega
 have hrun:=ae4 (P:=P) (Z7 hel) hinfo (by rw[k3];rfl) al m.toNat hb' al w
 rw[Int.toNat_of_nonneg hn]at hrun
 have hown:=(aK0 w z'.cells.toList m.toNat 1 el (by rw[k3];rfl) al).1
 rw[k3,W0, <-k1, <-k2]at hown
 obtain⟨ρ',q1,q2,q3⟩:=M.newRow (id:=id) (e:=el) (d:=d) ((Below.refl _ _).alloc (cn4 _) _) (hmk id ao) hi hown (by rw[k1];exact k4)
 have hrun2:(execOp g o).run P w=.ok (.value (.slice (some ⟨w.heap.size,0,none⟩) m.toNat m.toNat)) (w.alloc (.cells (E7 z'.cells.toList m.toNat).toArray el)):=by
  simp only[execOp,hop,Sem.run_bind,hl,hc,AV.val,hrun]
  rfl
 rw[k3,W0, <-k1]at hrun2
 exact .inl ⟨_,_,hrun2,ρ',q1,q2,q3⟩
end
def AV.agN:AV->AV
 |.v (.agg l)=>.agg (l.toList.map .v)
 |x=>x
theorem AV.val_agN(ρ:Nat->Value)(x:AV):x.agN.val ρ=x.val ρ:=by
 cases x<;>try rfl
 rename_i v
 cases v<;>try rfl
 simp only[AV.agN,AV.val,ac2,Array.toArray_toList]
def evN(e:Operand->Option AV)(x:Operand):Option AV:=(e x).map AV.agN
def aN7(P:Program)(S:Nat->It)(t:TypeId):AV->Option Tr
 | .ref id => match S id with
  | .row e (.ints l) => match U7 P t with
   |some el=>match L7 P el with
    |some (.int .i64 0)=>some ⟨[(id,.row e (.ints (cm8 l.length 0)))],[],.v (.tuple #[]),[0<l.length]⟩
    |_=>none
   |none=>none
  |_=>none
 |_=>none
theorem aX9{us xs:List Value}(h:us.length=xs.length):setFrom xs 0 us=us:=by
 apply List.ext_getElem?
 intro q
 rw[ay4,au4 _ _ _ _ al]
 by_cases hq:q<us.length
 ·rw[if_pos al];simp
 rw[if_neg al,cp0 al,cp0 al]
section
variable{P:Program}{ι:Type}{φ ψ:Nat->Prop}{w0 w w':World}{F:ι->Rs}{ρ:Nat->Value}{S:Nat->It}
theorem bJ0(M:k8 φ ψ w0 w (n6 F ρ S)){o:Oper}{g:Operand->Value}{t:TypeId}{x:Operand}(hop:o.op=.call {callee:=.builtin .clear,args:= #[x],argTypes:= #[t]}){av:AV}(hx:g x=av.val ρ){r:Tr}(h:aN7 P S t av=some r)(ho:x6 r.obs):
  N5 P o g w (K7 φ ψ w0 F ρ S r):=by
 unfold aN7 at h
 split at h<;>first|cases h|skip
 rename_i a
 split at h<;>first|cases h|skip
 rename_i e l hS
 split at h<;>first|cases h|skip
 rename_i el hel
 split at h<;>first|cases h|skip
 rename_i hz
 simp only[x6]at ho
 have hi:=ho.1
 obtain⟨xs,hown,hRW⟩:=M.rowAt hS
 obtain⟨hxl,hform⟩:=hown
 simp only[D.len,D.sz]at hxl hform
 rcases hform with⟨_,hn⟩|⟨b,cap,cur,hv,_,hb,hcap,hmax,hcs,htk⟩
 ·omega
 obtain⟨us,hus⟩:∃us,us=cm8 l.length (Value.int .i64 0):=⟨_,rfl⟩
 have hul:us.length=l.length:=by rw[hus];simp
 have hcur:0+us.length<=cur.toList.length:=by
  have hc2:cur.toList.length=cap*1:=by rw[Array.length_toList];exact hcs
  omega
 have hst:=run_storeCells_at (P:=P) b 0 e us 0 cur w hb (by simpa using hcur) (by intro v hv';rw[hus]at hv';rw[List.eq_of_mem_replicate hv'];rfl)
 simp only[Nat.add_zero]at hst
 rw[<-U9 _ _ _ hcur]at hst
 have hun:P.underlying t=some (.slice el):=by
  unfold U7 at hel
  split at hel
  ·rename_i hq;cases hel;exact hq
  cases hel
 have hzc:(Builtin.zeroCells (Value.int .i64 0).cells l.length).toList=us:=by
  rw[hus,show(Value.int .i64 0).cells= #[Value.int .i64 0]from rfl]
  simp[Builtin.zeroCells]
  apply List.ext_getElem
  ·simp
  intro i h1 h2
  simp[Nat.mod_one]
 have hcl:(Builtin.clear_ #[t] o.type #[ρ a]).run P w=.ok (.tuple #[]) (w.setRow b (setFrom cur.toList 0 us).toArray):=by
  rw[hv]
  obtain⟨m,hm⟩:∃m,l.length=m+1:=⟨l.length-1,al⟩
  rw[hm]at hzc ⊢
  have hzr:=aS7 hz
  simp[Builtin.clear_,run_underlying hun,hzr,hzc,hst]
 have hrun:(execOp g o).run P w=.ok (.value (.tuple #[])) (w.setRow b (setFrom cur.toList 0 us).toArray):=by
  simp only[AV.val]at hx
  simp only[execOp,hop,resolve,invoke,builtin,Sem.run_bind,Sem.run_pure,Result.andThen_ok,List.map_toArray,cq5,List.map_nil,hx,hcl]
 have hblk:∀c,((S a).res ρ a).blk c↔c=b:=fun c=>by
  rw[hS];simp only[It.res,Rs.blk,hv,Value.ownBlock,Option.some.injEq];exact⟨fun h=>h.symm,fun h=>h.symm⟩
 have hk:C6 (fun c=>¬((S a).res ρ a).blk c) w (w.setRow b (setFrom cur.toList 0 us).toArray):=
  ⟨rfl,rfl,rfl,ao,fun c _ hc=>setRow_other _ _ _ _ fun e=>hc ((hblk c).2 e)⟩
 have hints:us=ints (cm8 l.length 0):=by rw[hus];simp[ints]
 have M1:k8 φ ψ w0 (w.setRow b (setFrom cur.toList 0 us).toArray) (n6 F ρ (n5 S [(a,.row e (.ints (cm8 l.length 0)))])):=by
  refine M.one a _ [] (fun ρ' h j=>by rw[show ρ'=ρ from funext fun k=>h k ao]) (D4.refl _ _) hk (fun c hc=>.inl (by rw[hS];exact hc)) ?_
  simp only[It.res,D.len,D.sz,co5]
  refine⟨fun xs=>RW.nice _ xs,us,?_,?_⟩
  ·refine⟨by rw[hul];omega,.inr ⟨b,cap,(setFrom cur.toList 0 us).toArray,hv,cp5 _,setRow_heap _ _ _ _ _ _ hb,hcap,hmax,?_,?_⟩⟩
   ·simp[J1,hcs]
   have h1:=aX9 (us:=us) (xs:=xs) al
   exact(ac5 us cur.toList 0 (l.length*1)).trans (by rw[htk];exact h1)
  rw[hints];exact RW.ints' _
 exact .inl ⟨_,_,hrun,ρ,D4.refl _ _,M1,rfl⟩
end
def ak9(P:Program)(dk:TypeId->Nat)(e:Operand->Option AV)(S:Nat->It)(id:Nat):Op->Option Tr
 |.load t x=>(e x).bind fun a=>aZ5 P S id t a
 |.store t x y=>match e x,e y with
  |some a,some v=>ae1 P S t v a
  |_,_=>none
 |.alloc t=>match L7 P t with
  |some z=>if z.cells.toList.all (·.oneCell')then some ⟨[(id,.box (z.cells.toList.map .v))],[id],.ptr id 0,[]⟩else none
  |none=>none
 |.box _ x=>(e x).bind fun v=>bg1 S id v
 | .buildSlice t len parts => match aA2 P dk id t len parts.toList with
  |some r=>some r
  | none => match af1 P dk e S id t len parts.toList with
   |some r=>some r
   |none=>match aw5 P dk e S id t len parts.toList with
    |some r=>some r
    |none=>aw5 P dk (evN e) S id t len parts.toList
 |.makeSlice t l c=>match e l,e c with
  |some a,some b=>aZ3 P dk id t a b
  |_,_=>none
 |.slice t x lo hi none=>match e x,lo.map e,hi.map e with
  |some a,none,none=>ao2 P S id t a none none
  |some a,some (some l),none=>ao2 P S id t a (some l) none
  |some a,none,some (some h)=>ao2 P S id t a none (some h)
  |some a,some (some l),some (some h)=>ao2 P S id t a (some l) (some h)
  |_,_,_=>none
 | .call { callee := .builtin .append, args, argTypes } =>
  match args.toList,argTypes.toList with
  | [s, x], [t, t'] => match e s, e x with
   |some a,some b=>match bk2 P dk S id t t' a b with
    |some r=>some r
    |none=>a17 P S id t t' a b
   |_,_=>none
  |_,_=>none
 |.call {callee:=.builtin .clear,args,argTypes}=>
  match args.toList,argTypes.toList with
  |[x],[t]=>(e x).bind fun a=>aN7 P S t a
  |_,_=>none
 |_=>none
def au0(P:Program)(dk:TypeId->Nat)(e:Operand->Option AV)(S:Nat->It)(id:Nat)(op:Op):Option Tr:=
 match ac6 P e S op with
 |some r=>some ⟨[],[],r.1,r.2⟩
 |none=>ak9 P dk e S id op
section
variable{P:Program}{ι:Type}{φ ψ:Nat->Prop}{w0 w w':World}{F:ι->Rs}{ρ:Nat->Value}{S:Nat->It}
theorem bP0(M:k8 φ ψ w0 w (n6 F ρ S)){o:Oper}{g:Operand->Value}{t:TypeId}{cs:List AV}{v:Value}(hop:(execOp g o).run P w=.ok (.value (.pointer (some ⟨w.heap.size,0,none⟩))) (w.alloc (.cells v.cells t)))(hv:v.cells=(AV.vals ρ cs).toArray){id:Nat}(hn:id∉AV.idsL cs)(hS:S id=.none)(hi:Inv S ρ [id]):
  N5 P o g w (K7 φ ψ w0 F ρ S ⟨[(id,.box cs)],[id],.ptr id 0,[]⟩):=by
 have ha:D4 [id] ρ (fun j=>if j=id then .pointer (some ⟨w.heap.size,0,none⟩)else ρ j):=fun j hj=>by
  have:j≠id:=by simpa using hj
  simp[this]
 refine .inl ⟨_,_,hop,_,ha,M.one id _ [id] hi ha (C6.any ((Below.refl _ _).alloc (cn4 _) _)) (fun g hg=>?_) ?_,?_⟩
 ·simp only[It.res,if_true,U3]at hg
  exact .inr (by rw[show g=w.heap.size from hg];exact cn4 _)
 ·simp only[It.res,if_true,U3,Rs.holds]
  have e:AV.vals (fun j=>if j=id then .pointer (some ⟨w.heap.size,0,none⟩)else ρ j) cs=AV.vals ρ cs:=AV.vals_congr _ fun k hk=>by
   have:k≠id:=fun e=>hn (e▸hk)
   simp[this]
  rw[e,hv]
  exact D3.new _ _ _
 simp[AV.val,U3]
theorem bh1(l:List Value):AV.idsL (l.map .v)=[]:=by
 induction l with
 |nil=>rfl
 |cons a r ih=>simp[AV.idsL,AV.ids,ih]
theorem bz8(M:k8 φ ψ w0 w (n6 F ρ S)){dk:TypeId->Nat}{o:Oper}{e:Operand->Option AV}{g:Operand->Value}(hg:∀x∈o.op.operands,∀v,e x=some v->g x=v.val ρ){id:Nat}{r:Tr}(h:au0 P dk e S id o.op=some r)(ho:x6 r.obs)(hmk:∀j∈r.made,S j=.none)(hi:Inv S ρ r.made):
  N5 P o g w (K7 φ ψ w0 F ρ S r):=by
 unfold au0 at h
 split at h
 ·rename_i q hq
  cases h
  exact .inl ⟨_,_,bO3 M hg (r:=q.1) (obs:=q.2) hq ho,ρ,D4.refl _ _,M,rfl⟩
 rename_i hnone
 clear hnone
 cases hop:o.op<;>rw[hop]at h hg<;>simp only[ak9]at h<;>first|cases h|skip
 case load t x=>
  obtain⟨a,h1,h2⟩:=Option.bind_eq_some_iff.1 h
  exact bP4 M hop (hg x af _ h1) h2 ho hmk hi
 case store t x y=>
  split at h
  case h_2=>cases h
  rename_i a v h1 h2
  exact bz5 M hop (hg x af _ h1) (hg y af _ h2) h ho
 case alloc t=>
  split at h
  case h_2=>cases h
  rename_i z hz
  split at h
  case isFalse=>cases h
  cases h
  have hrun:(execOp g o).run P w=.ok (.value (.pointer (some ⟨w.heap.size,0,none⟩))) (w.alloc (.cells z.cells t)):=by
   simp[execOp,hop,Instr.alloc,aS7 hz,newVar,newRow]
  exact bP0 M hrun (by rw[ac2]) (by rw[bh1];simp) (hmk id ao) hi
 case box t x=>
  obtain⟨a,h1,h2⟩:=Option.bind_eq_some_iff.1 h
  have hx:=hg x af _ h1
  have hrun:(execOp g o).run P w=.ok (.value (.pointer (some ⟨w.heap.size,0,none⟩))) (w.alloc (.cells (a.val ρ).cells t)):=by
   simp[execOp,hop,Instr.box,newVar,newRow,hx]
  exact b04 M hrun rfl h2 hmk hi
 case buildSlice t len parts=>
  split at h
  ·rename_i r' h'
   cases h
   exact bx2 M hop h' hmk hi
  split at h
  ·rename_i r' h'
   cases h
   exact bx1 M hop (fun p hp v hv=>hg p.2 (by simp[Op.operands];exact⟨p.1,by simpa using hp⟩) v hv) h' hmk hi
  split at h
  ·rename_i r' h'
   cases h
   exact ba8 M hop (fun p hp v hv=>hg p.2 (by simp[Op.operands];exact⟨p.1,by simpa using hp⟩) v hv) h' ho hmk hi
  refine ba8 M hop (e:=evN e) (fun p hp v hv=>?_) h ho hmk hi
  obtain⟨y,h1,rfl⟩:=cn9.1 hv
  rw[AV.val_agN]
  exact hg p.2 (by simp[Op.operands];exact⟨p.1,by simpa using hp⟩) y h1
 case makeSlice t l c=>
  split at h
  case h_2=>cases h
  rename_i a b h1 h2
  exact bP2 M hop (hg l af _ h1) (hg c af _ h2) h ho hmk hi
 case slice t x lo hi' mx=>
  cases mx with
  |some mx=>simp only[ak9]at h;cases h
  |none=>
  simp only[ak9]at h
  split at h<;>first|cases h|skip
  ·rename_i a h1 h2 h3
   have:lo=none:=by cases lo<;>simp at h2 ⊢
   subst this
   have:hi'=none:=by cases hi'<;>simp at h3 ⊢
   subst this
   exact aF6 M (e:=e) hop (hg x af _ h1) rfl rfl h ho hmk hi
  ·rename_i a l h1 h2 h3
   obtain⟨lo',rfl,hlo⟩:=cn9.1 h2
   have:hi'=none:=by cases hi'<;>simp at h3 ⊢
   subst this
   exact aF6 M (e:=e) hop (hg x af _ h1) (by simp[hg lo' af _ hlo]) rfl h ho hmk hi
  ·rename_i a l h1 h2 h3
   obtain⟨hi'',rfl,hhi⟩:=cn9.1 h3
   have:lo=none:=by cases lo<;>simp at h2 ⊢
   subst this
   exact aF6 M (e:=e) hop (hg x af _ h1) rfl (by simp[hg hi'' af _ hhi]) h ho hmk hi
  rename_i a l hh h1 h2 h3
  obtain⟨lo',rfl,hlo⟩:=cn9.1 h2
  obtain⟨hi'',rfl,hhi⟩:=cn9.1 h3
  exact aF6 M (e:=e) hop (hg x af _ h1) (by simp[hg lo' af _ hlo]) (by simp[hg hi'' af _ hhi]) h ho hmk hi
 case call c=>
  obtain⟨callee,args,argTypes⟩:=c
  cases callee<;>(try simp only[ak9]at h)<;>first|cases h|skip
  rename_i b
  cases b<;>(try simp only[ak9]at h)<;>first|cases h|skip
  ·split at h<;>first|cases h|skip
   rename_i s x t t' hx ht
   have hx':args= #[s,x]:=by apply Array.ext';simpa using hx
   have ht':argTypes= #[t,t']:=by apply Array.ext';simpa using ht
   subst hx';subst ht'
   split at h
   case h_2=>cases h
   rename_i a b h1 h2
   split at h
   ·rename_i r' h'
    cases h
    exact app_ok M hop (hg s (by simp[Op.operands,Call.operands]) _ h1) (hg x (by simp[Op.operands,Call.operands]) _ h2) h' ho hmk hi
   exact bT1 M hop (hg s (by simp[Op.operands,Call.operands]) _ h1) (hg x (by simp[Op.operands,Call.operands]) _ h2) h ho hmk hi
  split at h<;>first|cases h|skip
  rename_i x t hx ht
  have hx':args= #[x]:=by apply Array.ext';simpa using hx
  have ht':argTypes= #[t]:=by apply Array.ext';simpa using ht
  subst hx';subst ht'
  obtain⟨a,h1,h2⟩:=Option.bind_eq_some_iff.1 h
  exact bJ0 M hop (hg x (by simp[Op.operands,Call.operands]) _ h1) h2 ho
end
structure j7 where
 f:FuncId
 args:List AV
 pre:List It
 post:List It
 res:AV
def j7.ok(P:Program)(c:j7):Prop:=∀(ι:Type) (φ ψ:Nat->Prop) (w0 w:World) (F:ι->Rs) (ρ:Nat->Value),k8 φ ψ w0 w (n6 F ρ (p6 c.pre))->
 Calls P c.f (AV.vals ρ c.args).toArray w fun x w'=>∃ρ',(∀i,i<c.pre.length->ρ' i=ρ i)/\x=.returned (c.res.val ρ')/\k8 φ ψ w0 w' (n6 F ρ' (p6 c.post))
def aF5(P:Program)(f:FuncId):Bool:=
 match P.funcs[f]? with
 |some fn=>fn.body.isSome&& !(fn.name== "runtime.NumGoroutine")
 |none=>false
theorem aU2{P:Program}{f:FuncId}(h:aF5 P f=true)(args:Array Value)(w:World):(callFunc f args).run P w=.ok (.enter f args) w:=by
 unfold aF5 at h
 cases hf:P.funcs[f]? with
 |none=>rw[hf]at h;cases h
 |some fn=>
  rw[hf]at h
  simp only[cm9,co9]at h
  cases hb:fn.body with
  |none=>rw[hb]at h;cases h.1
  |some c=>exact ao1 hf h.2 hb args w
def memN(j:Nat):List Nat->Bool
 |[]=>false
 |x::r=>natEq j x||memN j r
def nodupB:List Nat->Bool
 |[]=>true
 |x::r=> !memN x r&&nodupB r
theorem v5{j:Nat}{l:List Nat}:memN j l=true↔j∈l:=by
 induction l with
 |nil=>simp[memN]
 |cons x r ih=>simp[memN,natEq,ih]
theorem ar9{l:List Nat}(h:nodupB l=true):l.Nodup:=by
 induction l with
 |nil=>simp
 |cons x r ih=>
  simp only[nodupB,cm9,co9]at h
  refine List.nodup_cons.2 ⟨fun hm=>?_,ih h.2⟩
  rw[v5.2 hm]at h;cases h.1
def X1(n:Nat)(l:List Nat):Bool:=l.all fun j=>decide (j<n)
theorem D8{n:Nat}{l:List Nat}(h:X1 n l=true):∀j∈l,j<n:=fun j hj=>by simpa using cn8.1 h j hj
def ai1:List Nat->List It->List (Nat×It)
 |a::r,x::s=>(a,x)::ai1 r s
 |_,_=>[]
def nth(σ:List Nat)(i:Nat):Nat:=σ.getD i 0
def aw7:List Nat->List It->List It->List (Nat×It)
 |a::r,p::q,x::s=>match p,x with
  |.dat _,.dat _=>aw7 r q s
  |.row _ _,.kept (some _) _=>aw7 r q s
  |.tree _,.kept none _=>aw7 r q s
  |_,_=>(a,x.unK)::aw7 r q s
 |a::r,[],x::s=>(a,x.unK)::aw7 r [] s
 |_,_,_=>[]
def az4:List It->List It->List It
 |p::q,x::s=>match p,x with
  |.dat d,.dat _=>.dat d::az4 q s
  |.row e d,.kept (some _) _=>.row e d::az4 q s
  |.tree d,.kept none _=>.tree d::az4 q s
  |_,_=>az4 q s
 |_,_=>[]
def az3:List It->List It->List It
 |p::q,x::s=>match p,x with
  |.dat _,.dat e=>.dat e::az3 q s
  |.row _ _,.kept (some e) d=>.row e d::az3 q s
  |.tree _,.kept none d=>.tree d::az3 q s
  |_,_=>az3 q s
 |_,_=>[]
def aL8:It->It->Bool
 |.dat _,.dat _=>true
 |.row _ _,.kept (some _) _=>true
 |.tree _,.kept none _=>true
 |_,_=>false
theorem bs1(a:Nat)(r:List Nat)(p:It)(q:List It)(x:It)(s:List It):aw7 (a::r) (p::q) (x::s)=if aL8 p x then aw7 r q s else(a,x.unK)::aw7 r q s:=by
 cases p<;>cases x<;>first|rfl|(rename_i e d;cases e<;>rfl)|(rename_i d e;cases e<;>rfl)|(rename_i e d f g;cases f<;>rfl)|(rename_i d f g;cases f<;>rfl)
theorem bv0(p:It)(q:List It)(x:It)(s:List It):az4 (p::q) (x::s)=if aL8 p x then p::az4 q s else az4 q s:=by
 cases p<;>cases x<;>first|rfl|(rename_i e d;cases e<;>rfl)|(rename_i d e;cases e<;>rfl)|(rename_i e d f g;cases f<;>rfl)|(rename_i d f g;cases f<;>rfl)
theorem bu9(p:It)(q:List It)(x:It)(s:List It):az3 (p::q) (x::s)=if aL8 p x then x.unK::az3 q s else az3 q s:=by
 cases p<;>cases x<;>first|rfl|(rename_i e d;cases e<;>rfl)|(rename_i d e;cases e<;>rfl)|(rename_i e d f g;cases f<;>rfl)|(rename_i d f g;cases f<;>rfl)
theorem a01:∀{P X:List It} {i:Nat} {p x:It},az4 P X=az3 P X->P[i]? =some p->X[i]? =some x->aL8 p x=true->p=x.unK
 |[],_,_,_,_,_,h,_,_=>by simp at h
 |_::_,[],_,_,_,_,_,h,_=>by simp at h
 | p :: q, x :: s, i, p1, x1, h, h1, h2, hk => by
  rw[bv0,bu9]at h
  cases i with
  |zero=>
   simp at h1 h2
   subst h1 h2
   rw[if_pos hk,if_pos hk]at h
   exact(List.cons.inj h).1
  |succ i=>
   refine a01 (P:=q) (X:=s) (i:=i) ?_ (by simpa using h1) (by simpa using h2) hk
   split at h
   ·exact(List.cons.inj h).2
   exact h
theorem b27{P X:List It}{i:Nat}{d e:D}(h:az4 P X=az3 P X)(h1:P[i]? =some (.dat d))(h2:X[i]? =some (.dat e)):d=e:=by
 have:=a01 h h1 h2 rfl
 simpa[It.unK]using this
theorem ax6{S:Nat->It}:∀{σ:List Nat} {P X:List It},σ.Nodup->(∀(i j:Nat) (p x:It),σ[i]? =some j->P[i]? =some p->X[i]? =some x->aL8 p x=true->S j=x.unK)->∀j,n5 S (aw7 σ P X) j=n5 S (ai1 σ (X.map It.unK)) j
 |[],_,_,_,_,j=>by simp[aw7,ai1]
 |a::r,P,[],_,_,j=>by cases P<;>simp[aw7,ai1]
 |a::r,[],x::s,hn,h,j=>by
  simp only[aw7,ai1,n5,cq5]
  rw[ax6 (List.nodup_cons.1 hn).2 (fun i j d e _ h2 _=>by simp at h2) j]
 | a :: r, p :: q, x :: s, hn, h, j => by
  have ih:=ax6 (S:=S) (P:=q) (X:=s) (List.nodup_cons.1 hn).2 (fun i j d e h1 h2 h3 h4=>h (i+1) j d e (by simpa using h1) (by simpa using h2) (by simpa using h3) h4) j
  rw[bs1]
  simp only[ai1,cq5]
  split
  ·rename_i hk
   rw[ih]
   simp only[n5]
   split
   ·rename_i hj
    subst hj
    rw[at8 fun hm=>(List.nodup_cons.1 hn).1 (by
     have:∀{σ:List Nat} {L:List It} {j:Nat},j∈(ai1 σ L).map (·.1)->j∈σ:=fun{σ}=>by
      induction σ with
      |nil=>intro L j h;simp[ai1]at h
      |cons a r ih=>intro L j h;cases L with
       |nil=>simp[ai1]at h
       |cons y s=>simp only[ai1,cq5,cq9]at h ⊢;exact h.imp id ih
     exact this hm)]
    exact h 0 j p x rfl rfl rfl hk
   rfl
  simp only[n5]
  rw[ih]
def br4:AV->Option (Nat×List AV×List AV)
 |.fn f l=>some (f,[],l)
 |.bm f l=>some (f,l,[])
 |_=>none
def aF8(P:Program)(e:Operand->Option AV)(S:Nat->It)(id:Nat)(c:j7)(τ:List Nat):Op->Option Tr
 | .call { callee := .value fo, args, .. } =>
  match(e fo).bind br4,args.toList.mapM e with
  | some (f, _, _), some xs =>
   if natEq f c.f&&aF5 P f&&natEq τ.length c.pre.length&&decide (c.pre.length<=c.post.length)&&nodupB (τ++List.range' id (c.post.length-c.pre.length))&&c.post.all (fun x=>X1 c.post.length x.ids)&&X1 c.post.length c.res.ids then
    some ⟨aw7 (τ++List.range' id (c.post.length-c.pre.length)) c.pre (c.post.map (It.ren (nth (τ++List.range' id (c.post.length-c.pre.length))))),
     List.range' id (c.post.length-c.pre.length),c.res.ren (nth (τ++List.range' id (c.post.length-c.pre.length))),
     []⟩
   else none
  |_,_=>none
 |_=>none
def aF9(e:Operand->Option AV)(S:Nat->It)(id:Nat)(c:j7)(τ:List Nat):Op->List (List AV×List It)×List (List AV×List It)
 |.call {callee:=.value fo,args, .. }=>
  match(e fo).bind br4,args.toList.mapM e with
  |some (_,fst,caps),some xs=>([(fst++(xs++caps),τ.map S++az4 c.pre c.post)],[(AV.renL (nth (τ++List.range' id (c.post.length-c.pre.length))) c.args,c.pre.map (It.ren (nth (τ++List.range' id (c.post.length-c.pre.length))))++az3 c.pre c.post)])
  |_,_=>([],[])
 |_=>([],[])
section
variable{P:Program}{ι:Type}{φ ψ:Nat->Prop}{w0 w w':World}{F:ι->Rs}{ρ:Nat->Value}{S:Nat->It}
theorem a29{S:Nat->It}:∀{σ:List Nat} {L:List It} {i j:Nat} {x:It},σ.Nodup->σ[i]? =some j->L[i]? =some x->n5 S (ai1 σ L) j=x
 |[],_,_,_,_,_,h,_=>by simp at h
 |a::r,[],_,_,_,_,_,h=>by simp at h
 |a::r,y::s,0,j,x,_,h1,h2=>by
  simp at h1 h2
  subst h1 h2
  simp[ai1,n5]
 |a::r,y::s,i+1,j,x,hn,h1,h2=>by
  have h1':r[i]? =some j:=by simpa using h1
  have hne:j≠a:=fun e=>(List.nodup_cons.1 hn).1 (e▸cp6 h1')
  simp only[ai1,n5,if_neg hne]
  exact a29 (List.nodup_cons.1 hn).2 h1' (by simpa using h2)
theorem a18:∀{σ:List Nat} {L:List It} {j:Nat},j∈(ai1 σ L).map (·.1)->j∈σ
 |[],_,_,h=>by simp[ai1]at h
 |a::r,[],_,h=>by simp[ai1]at h
 |a::r,y::s,j,h=>by
  simp only[ai1,cq5,cq9]at h ⊢
  exact h.imp id a18
theorem J9{σ:List Nat}{i j:Nat}(h:σ[i]? =some j):nth σ i=j:=by simp[nth,cn2,h]
theorem as2{σ:List Nat}(hn:σ.Nodup){i j:Nat}(h:σ[i]? =some j):σ.idxOf j=i:=by
 have hl:=(co0.1 h).1
 have hm:=cp6 h
 have h1:σ[σ.idxOf j]? =some j:=by
  have:=List.idxOf_lt_length_of_mem hm
  rw[cn0 this,List.getElem_idxOf]
 exact(List.getElem?_inj (List.idxOf_lt_length_of_mem hm) hn).1 (h1.trans h.symm)
theorem j7.okPost{c:j7}(hc:c.ok P)(post:List It)(h:∀(ρ:Nat->Value) (i:Nat),(p6 post i).res ρ i=(p6 c.post i).res ρ i):j7.ok P ⟨c.f,c.args,c.pre,post,c.res⟩:=by
 intro ι φ ψ w0 w F ρ M
 refine(hc ι φ ψ w0 w F ρ M).mono ?_
 rintro x w' ⟨ρ',h1,h2,M2⟩
 refine⟨ρ',h1,h2,?_⟩
 have e:n6 F ρ' (p6 post)=n6 F ρ' (p6 c.post):=by
  funext k
  cases k with
  |inl i=>rfl
  |inr j=>exact h ρ' j
 simp only
 rw[e];exact M2
theorem bP3{f:It->It}(hf:f .none=.none)(l:List It)(i:Nat):p6 (l.map f) i=f (p6 l i):=by
 simp only[p6,cn2,List.getElem?_map]
 cases l[i]? with
 |none=>exact hf.symm
 |some x=>rfl
theorem bv8(M:k8 φ ψ w0 w (n6 F ρ S)){o:Oper}{e:Operand->Option AV}{g:Operand->Value}{fo:Operand}{args:Array Operand}{argTypes:Array TypeId}(hop:o.op=.call {callee:=.value fo,args:=args,argTypes:=argTypes})
  (hg:∀x∈(Op.call {callee:=.value fo,args:=args,argTypes:=argTypes}).operands,∀v,e x=some v->g x=v.val ρ) {c:j7} (hc:c.ok P) {fst caps xs:List AV} (hf:(e fo).bind br4=some (c.f,fst,caps)) (has:args.toList.mapM e=some xs) {τ σ:List Nat} {id m:Nat} (hm0:m=c.post.length-c.pre.length) (hσ:τ++List.range' id m=σ)
  (hent:aF5 P c.f=true) (hτ:τ.length=c.pre.length) (hle:c.pre.length<=c.post.length) (hn:σ.Nodup) (hpost:c.post.all (fun x=>X1 c.post.length x.ids)=true) (hres:X1 c.post.length c.res.ids=true) (hargs:fst++(xs++caps)=AV.renL (nth σ) c.args) (hSpre:∀i j,i<c.pre.length->σ[i]? =some j->S j=((p6 c.pre) i).ren (nth σ))
  (L:List (Nat×It)) (hzip:n5 S L=n5 S (ai1 σ (c.post.map (It.ren (nth σ))))) (hi:Inv S ρ (List.range' id m)):N5 P o g w (K7 φ ψ w0 F ρ S ⟨L,List.range' id m,c.res.ren (nth σ),[]⟩):=by
 subst hm0
 have hσl:σ.length=c.post.length:=by rw[<-hσ,cn3,List.length_range'];omega
 have hmade:∀i,c.pre.length<=i->∀j,σ[i]? =some j->j∈List.range' id (c.post.length-c.pre.length):=fun i hi' j hj=>by
  rw[<-hσ,cp9 al]at hj
  exact cp6 hj
 let F':ι ⊕ Nat->Rs:=fun k=>match k with|.inl i=>F i|.inr j=>if memN j σ then Rs.none else(S j).res ρ j
 have M1:k8 φ ψ w0 w (n6 F' (fun i=>ρ (nth σ i)) (p6 c.pre)):=by
  refine M.map (fun k:(ι ⊕ Nat) ⊕ Nat=>(match k with|.inl (.inl i)=>some (.inl i)|.inl (.inr j)=>if memN j σ then none else some (.inr j)|.inr i=>if i<c.pre.length then some (.inr (nth σ i))else none:Option (ι ⊕ Nat))) ?_ ?_
  ·intro k k' x h1 h2
   match k,k' with
   |.inl (.inl i),.inl (.inl i')=>simp at h1 h2;subst h1;simpa using h2.symm
   |.inl (.inl i),.inl (.inr j')=>simp at h1;subst h1;simp at h2
   |.inl (.inl i),.inr j'=>simp at h1;subst h1;simp at h2
   |.inl (.inr j),.inl (.inl i')=>simp at h2;subst h2;simp at h1
   |.inr j,.inl (.inl i')=>simp at h2;subst h2;simp at h1
   |.inl (.inr j),.inl (.inr j')=>
    simp at h1 h2
    rw[<-h1.2]at h2
    rw[Sum.inr.inj h2.2]
   |.inl (.inr j),.inr i'=>
    simp at h1 h2
    rw[<-h1.2]at h2
    have hj:=Sum.inr.inj h2.2
    have hlt:i'<σ.length:=al
    have:memN j σ=true:=v5.2 (by rw[<-hj,J9 (cn0 hlt)];exact co6 hlt)
    rw[this]at h1;cases h1.1
   |.inr i,.inl (.inr j')=>
    simp at h1 h2
    rw[<-h1.2]at h2
    have hj:=Sum.inr.inj h2.2
    have hlt:i<σ.length:=al
    have:memN j' σ=true:=v5.2 (by rw[hj,J9 (cn0 hlt)];exact co6 hlt)
    rw[this]at h2;cases h2.1
   |.inr i,.inr i'=>
    simp at h1 h2
    rw[<-h1.2]at h2
    have hj:=Sum.inr.inj h2.2
    have hlt:i<σ.length:=al
    have hlt':i'<σ.length:=al
    rw[J9 (cn0 hlt),J9 (cn0 hlt')]at hj
    have:=(List.getElem?_inj hlt hn).1 ((cn0 hlt).trans (by rw[<-hj];exact(cn0 hlt').symm))
    rw[this]
  intro k
  match k with
  |.inl (.inl i)=>exact .inl ⟨.inl i,rfl,rfl⟩
  |.inl (.inr j)=>
   cases hm:memN j σ
   ·exact .inl ⟨.inr j,by simp[hm],by simp[n6,F',hm]⟩
   exact .inr (by simp[n6,F',hm])
  | .inr i =>
   by_cases hlt:i<c.pre.length
   ·refine .inl ⟨.inr (nth σ i),by simp[hlt],?_⟩
    have hlt':i<σ.length:=al
    have h1:=hSpre i _ hlt (cn0 hlt')
    simp only[n6]
    rw[J9 (cn0 hlt'),h1, <-It.res_ren,J9 (cn0 hlt')]
   refine .inr ?_
   simp only[n6,p6,cn2,cp0 (Nat.le_of_not_lt hlt)]
   rfl
 have hcalls:=hc _ φ ψ w0 w F' (fun i=>ρ (nth σ i)) M1
 obtain⟨av,hav,hcal⟩:=Option.bind_eq_some_iff.1 hf
 have hgf:=hg fo (by simp[Op.operands,Call.operands]) _ hav
 have hga:=an4 (ρ:=ρ) (g:=g) (fun x hx v hv=>hg x (by simp[Op.operands,Call.operands];exact .inr (by simpa using hx)) v hv) has
 have hrun:(execOp g o).run P w=.ok (.enter c.f (AV.vals (fun i=>ρ (nth σ i)) c.args).toArray) w:=by
  have e1:(AV.vals ρ fst).toArray++args.map g++(AV.vals ρ caps).toArray=(AV.vals (fun i=>ρ (nth σ i)) c.args).toArray:=by
   rw[<-AV.vals_ren (ρ:=ρ) (σ:=nth σ) c.args, <-hargs,AV.vals_append,AV.vals_append, <-hga]
   apply Array.ext';simp
  simp only[execOp,hop,resolve,Deferred.ofValue,Sem.run_bind,Sem.run_pure,Result.andThen_ok]
  rw[hgf]
  cases av<;>simp only[br4,Option.some.injEq,Prod.mk.injEq,reduceCtorEq]at hcal
  ·obtain⟨rfl,rfl,rfl⟩:=hcal
   simp only[AV.val,Sem.run_pure,Result.andThen_ok,invoke]
   simp only[AV.vals]at e1
   rw[e1]
   exact aU2 hent _ _
  obtain⟨rfl,rfl,rfl⟩:=hcal
  simp only[AV.val,Sem.run_pure,Result.andThen_ok,invoke]
  simp only[AV.vals]at e1
  rw[e1]
  exact aU2 hent _ _
 refine .inr (.inr ⟨_,_,_,hrun,hcalls.mono ?_⟩)
 rintro x w' ⟨ρ',h1,rfl,M2⟩
 refine⟨_,rfl,fun j=>if memN j σ then ρ' (σ.idxOf j)else ρ j,?_,?_,?_⟩
 ·intro j hj
  show(if memN j σ then ρ' (σ.idxOf j)else ρ j)=ρ j
  cases hm:memN j σ
  ·rfl
  obtain⟨i,hi'⟩:=List.mem_iff_getElem?.1 (v5.1 hm)
  have hlt:i<c.pre.length:=by
   rcases cp1 i c.pre.length with h|h
   ·exact h
   exact absurd (hmade i h j hi') hj
  simp only[if_true]
  rw[as2 hn hi',h1 i hlt,J9 hi']
 ·have hag:∀j,j∉List.range' id (c.post.length-c.pre.length)->(fun j=>if memN j σ then ρ' (σ.idxOf j)else ρ j) j=ρ j:=by
   intro j hj
   show(if memN j σ then ρ' (σ.idxOf j)else ρ j)=ρ j
   cases hm:memN j σ
   ·rfl
   obtain⟨i,hi'⟩:=List.mem_iff_getElem?.1 (v5.1 hm)
   have hlt:i<c.pre.length:=by
    rcases cp1 i c.pre.length with h|h
    ·exact h
    exact absurd (hmade i h j hi') hj
   simp only[if_true]
   rw[as2 hn hi',h1 i hlt,J9 hi']
  have hρσ:∀i,i<c.post.length->(fun j=>if memN j σ then ρ' (σ.idxOf j)else ρ j) (nth σ i)=ρ' i:=by
   intro i hlt
   have hi':=cn0 (show i<σ.length by omega)
   show(if memN (nth σ i) σ then ρ' (σ.idxOf (nth σ i))else ρ (nth σ i))=ρ' i
   rw[J9 hi',v5.2 (co6 _),if_pos rfl,as2 hn hi']
  rw[hzip]
  refine M2.map (fun k:ι ⊕ Nat=>(match k with|.inl i=>some (.inl (.inl i))|.inr j=>if memN j σ then some (.inr (σ.idxOf j))else some (.inl (.inr j)):Option ((ι ⊕ Nat) ⊕ Nat))) ?_ ?_
  ·intro k k' x h2 h3
   match k,k' with
   |.inl i,.inl i'=>simp at h2 h3;rw[<-h2]at h3;simpa using h3.symm
   |.inl i,.inr j=>simp at h2;subst h2;simp at h3;split at h3<;>simp at h3
   |.inr j,.inl i=>simp at h3;subst h3;simp at h2;split at h2<;>simp at h2
   |.inr j,.inr j'=>
    simp only at h2 h3
    cases hm:memN j σ<;>cases hm':memN j' σ<;>rw[hm]at h2<;>rw[hm']at h3<;>simp at h2 h3<;>subst h2<;>simp at h3
    ·rw[h3]
    obtain⟨i,hi1⟩:=List.mem_iff_getElem?.1 (v5.1 hm)
    obtain⟨i',hi2⟩:=List.mem_iff_getElem?.1 (v5.1 hm')
    rw[as2 hn hi1,as2 hn hi2]at h3
    subst h3
    rw[hi1]at hi2;cases hi2;rfl
  intro k
  match k with
  |.inl i=>exact .inl ⟨_,rfl,rfl⟩
  | .inr j =>
   cases hm:memN j σ
   ·refine .inl ⟨.inl (.inr j),by simp[hm],?_⟩
    simp only[n6,F',hm]
    rw[at8 fun hh=>by have:=v5.2 (a18 hh);rw[hm]at this;cases this]
    exact hi _ hag j
   obtain⟨i,hi'⟩:=List.mem_iff_getElem?.1 (v5.1 hm)
   have hlt:i<c.post.length:=by have:=(co0.1 hi').1;omega
   refine .inl ⟨.inr (σ.idxOf j),by simp[hm],?_⟩
   rw[as2 hn hi']
   have hx:(c.post.map (It.ren (nth σ)))[i]? =some ((c.post[i]).ren (nth σ)):=by simp[hlt]
   simp only[n6]
   rw[a29 hn hi' hx]
   conv=>lhs;rw[<-J9 hi']
   rw[It.res_ren]
   have hl:p6 c.post i=c.post[i]:=by simp[p6,cn2,hlt]
   rw[hl]
   exact It.res_congr _ (fun q hq=>hρσ q (D8 (cn8.1 hpost _ (co6 hlt)) q hq)) (.inr (.inr (hρσ i hlt)))
 rw[AV.val_ren]
 refine(AV.val_congr _ fun q hq=>?_).symm
 have hlt:=D8 hres q hq
 have hi':=cn0 (show q<σ.length by omega)
 show(if memN (nth σ q) σ then ρ' (σ.idxOf (nth σ q))else ρ (nth σ q))=ρ' q
 rw[J9 hi',v5.2 (co6 _),if_pos rfl,as2 hn hi']
theorem bS3(M:k8 φ ψ w0 w (n6 F ρ S)){o:Oper}{e:Operand->Option AV}{g:Operand->Value}(hg:∀x∈o.op.operands,∀v,e x=some v->g x=v.val ρ){c:j7}(hc:c.ok P){τ:List Nat}{id:Nat}{r:Tr}(h:aF8 P e S id c τ o.op=some r)(ho:(aF9 e S id c τ o.op).1=(aF9 e S id c τ o.op).2)(hmk:∀j∈r.made,S j=.none)(hi:Inv S ρ r.made):
  N5 P o g w (K7 φ ψ w0 F ρ S r):=by
 cases hop:o.op<;>rw[hop]at h hg ho<;>simp only[aF8]at h<;>first|cases h|skip
 rename_i cl
 obtain⟨callee,args,argTypes⟩:=cl
 cases callee<;>(try simp only[aF8]at h)<;>first|cases h|skip
 rename_i fo
 split at h
 case h_2=>cases h
 rename_i f fst caps xs hf has
 split at h
 case isFalse=>cases h
 rename_i hcond
 cases h
 simp only[aF9,hf,has,List.cons.injEq,Prod.mk.injEq,and_true]at ho
 generalize hσ:τ++List.range' id (c.post.length-c.pre.length)=σ at*
 simp only[cm9,decide_eq_true_eq,natEq,beq_iff_eq]at hcond
 obtain⟨⟨⟨⟨⟨⟨rfl,hent⟩,hτ⟩,hle⟩,hnd⟩,hpost⟩,hres⟩:=hcond
 have hn:=ar9 hnd
 obtain⟨hargs,hpre⟩:=ho
 obtain⟨hpre,hsame⟩:=List.append_inj hpre (by simp[hτ])
 have hσl:σ.length=c.post.length:=by rw[<-hσ,cn3,List.length_range'];omega
 have hστ:∀i,i<c.pre.length->σ[i]? =τ[i]? :=fun i hi'=>by rw[<-hσ,co2 al]
 have hmade:∀i,c.pre.length<=i->∀j,σ[i]? =some j->j∈List.range' id (c.post.length-c.pre.length):=fun i hi' j hj=>by
  rw[<-hσ,cp9 al]at hj
  exact cp6 hj
 have hSpre:∀i j,i<c.pre.length->σ[i]? =some j->S j=((p6 c.pre) i).ren (nth σ):=fun i j hi' hj=>by
  have h1:(τ.map S)[i]? =(c.pre.map (It.ren (nth σ)))[i]? :=by rw[hpre]
  rw[List.getElem?_map,List.getElem?_map, <-hστ i hi',hj]at h1
  simp only[p6,cn2]
  rw[cn0 hi']at h1 ⊢
  simpa using h1
 have hc1:j7.ok P ⟨c.f,c.args,c.pre,c.post.map It.unK,c.res⟩:=j7.okPost hc _ fun ρ i=>by rw[bP3 rfl,It.res_unK]
 have hll:(c.post.map It.unK).length=c.post.length:=List.length_map It.unK
 refine bv8 M hop hg hc1 hf has (by simp only;rw[hll]) hσ hent hτ (by simp only;omega) hn ?_ (by simp only;rw[hll];exact hres) hargs hSpre _ ?_ hi
 ·simp only
  rw[hll,List.all_map]
  refine cn8.2 fun x hx=>?_
  simp only[Function.comp,It.ids_unK]
  exact cn8.1 hpost x hx
 funext j
 rw[ax6 hn (fun i j p x h1 h2 h3 hk=>?_) j]
 ·simp only[List.map_map]
  congr 3
  funext x
  exact It.unK_ren _ x
 have hlt:i<c.pre.length:=(co0.1 h2).1
 rw[hSpre i j hlt h1]
 rw[List.getElem?_map]at h3
 cases hx:c.post[i]? with
 |none=>rw[hx]at h3;simp at h3
 | some y =>
  rw[hx]at h3
  simp at h3
  subst h3
  have hk2:aL8 p y=true:=by
   cases p<;>cases y<;>first|exact hk|(simp[aL8,It.ren]at hk;done)
  have:=a01 hsame h2 hx hk2
  rw[show p6 c.pre i=p by simp[p6,cn2,h2],this,It.unK_ren]
end
def B9:List (Nat×AV)->Nat->Option AV
 |[],_=>none
 |(k,x)::r,t=>if natEq t k then some x else B9 r t
abbrev rg(n:Nat):List Nat:=co4 n
theorem dFf{p:Prop}[Decidable p](h:decide p=false):¬p:=of_decide_eq_false h
theorem dTt{p:Prop}[Decidable p](h:decide p=true):p:=of_decide_eq_true h
def us:List (Nat×Nat×Nat)->List (Nat×Nat)
 |[]=>[]
 |(a,b,k)::r=>((co4 (b+1-a)).map fun i=>(a+i,k))++us r
structure V3 where
 calls:List (Nat×j7×List Nat)
 facts:List (Bool×Bool)
 uses:List (Nat×Nat)
def O6:List (Nat×j7×List Nat)->Nat->Option (j7×List Nat)
 |[],_=>none
 |(k,x)::r,i=>if natEq i k then some x else O6 r i
def cc1:List (Nat×Nat)->Nat->Option Nat
 |[],_=>none
 |(k,x)::r,i=>if natEq i k then some x else cc1 r i
def bp9(H:V3)(i:Nat):Option (Bool×Bool):=(cc1 H.uses i).bind fun k=>H.facts[k]?
def S9:List (Bool×Bool)->Prop
 |[]=>True
 |p::r=>p.1=p.2/\S9 r
theorem a91:∀{l:List (Bool×Bool)} {k:Nat} {p:Bool×Bool},S9 l->l[k]? =some p->p.1=p.2
 |[],_,_,_,h=>by simp at h
 |q::r,0,p,hf,h=>by simp at h;subst h;exact hf.1
 |q::r,k+1,p,hf,h=>a91 hf.2 (by simpa using h)
theorem a83{H:V3}(hF:S9 H.facts){i:Nat}{p:Bool×Bool}(h:bp9 H i=some p):p.1=p.2:=by
 obtain⟨k,_,h2⟩:=Option.bind_eq_some_iff.1 h
 exact a91 hF h2
def opT(op:Op):List Nat:=op.operands.toList.filterMap fun|.tmp t=>some t|_=>none
def rtm(tm:Nat->Option AV)(l:List Nat):Nat->Option AV:=fun t=>if memN t l then tm t else none
def rS(S:Nat->It)(l:List Nat):Nat->It:=fun j=>if memN j l then S j else .none
def Y8(tm:Nat->Option AV)(l:List Nat):List Nat:=(l.filterMap tm).flatMap AV.ids
def tch(tm:Nat->Option AV)(op:Op):List Nat:=match op with
 |.move _=>[]
 |.store _ x _=>match ev (rtm tm (opT op)) x with
  |some (.ptr b _)=>[b]
  |_=>Y8 tm (opT op)
 |_=>Y8 tm (opT op)
def wk(tm:Nat->Option AV)(op:Op):List Nat:=match op with
 |.store _ x _=>match ev (rtm tm (opT op)) x with
  |some (.ptr _ _)=>Y8 tm (opT op)
  |_=>[]
 |_=>[]
def aY5(d:Option (Bool×Bool))(e:Operand->Option AV):Op->Option Tr
 |.pick c a b=>
  match d,e c with
  |some d,some (.v (.bool _))=>(e (if d.2 then a else b)).map fun r=>⟨[],[],r,[]⟩
  |_,_=>none
 |_=>none
def aY6(d:Option (Bool×Bool))(e:Operand->Option AV):Op->List (List AV×List It)×List (List AV×List It)
 |.pick c _ _=>
  match d,e c with
  |some d,some x=>([([x],[])],[([.v (.bool d.1)],[])])
  |_,_=>([],[])
 |_=>([],[])
def aK2(P:Program)(dk:TypeId->Nat)(H:V3)(tm:Nat->Option AV)(S:Nat->It)(id i:Nat)(op:Op):Option Tr:=
 match O6 H.calls i with
 |some (c,τ)=>aF8 P (ev (rtm tm (opT op))) (rS S (tch tm op++τ)) id c τ op
 |none=>
  match aY5 (bp9 H (i+1000)) (ev (rtm tm (opT op))) op with
  |some r=>some r
  |none=>au0 P dk (ev (rtm tm (opT op))) (rS S (tch tm op++wk tm op)) id op
def bf7(H:V3)(tm:Nat->Option AV)(S:Nat->It)(id i:Nat)(op:Op):List (List AV×List It)×List (List AV×List It):=
 match O6 H.calls i with
 |some (c,τ)=>aF9 (ev (rtm tm (opT op))) (rS S (tch tm op++τ)) id c τ op
 |none=>aY6 (bp9 H (i+1000)) (ev (rtm tm (opT op))) op
def aH9(ops:List Oper)(H:V3)(tm:Nat->Option AV)(i:Nat)(o:Oper):Option (Bool×List AV×List AV):=
 match o.guard with
 |none=>some (true,[],[])
 | some (j, want) =>
  match(ops[j]?).bind (·.dst)with
  |none=>none
  |some t=>
   match tm t with
   |some (.v (.bool b))=>(bp9 H i).map fun d=>(d.2==want,[.v (.bool b)],[.v (.bool d.1)])
   |some (.v (.tuple _))=>some (false,[],[])
   |_=>none
def knd:It->Nat
 |.box _=>1
 |.dat _=>2
 |.row _ _=>2
 |.tree _=>3
 |_=>0
theorem cb3(x:It):itB x=natEq (knd x) 1:=by cases x<;>rfl
theorem bV1(x:It):(itD x).isSome=natEq (knd x) 2:=by cases x<;>rfl
theorem cb2(x:It):(itT x).isSome=natEq (knd x) 3:=by cases x<;>rfl
section
variable{S S':Nat->It}
mutual
theorem V7:∀{x:AV},(∀j∈x.ids,knd (S j)=knd (S' j))->okc S x=okc S' x
 |.v _,_=>rfl
 |.ptr b _,h=>by simp only[okc,cb3];rw[h b (by simp[AV.ids])]
 |.ea b _ _ _,h=>by simp only[okc,bV1];rw[h b (by simp[AV.ids])]
 |.ref b,h=>by simp only[okc,bV1];rw[h b (by simp[AV.ids])]
 |.fn _ l,h=>by simp only[okc];exact av1 fun j hj=>h j (by simpa[AV.ids]using hj)
 |.bm _ l,h=>by simp only[okc];exact P3 fun j hj=>h j (by simpa[AV.ids]using hj)
 |.tref b,h=>by simp only[okc,cb2];rw[h b (by simp[AV.ids])]
 |.agg _,_=>rfl
 |.tup _,_=>rfl
theorem av1:∀{l:List AV},(∀j∈AV.idsL l,knd (S j)=knd (S' j))->aK4 S l=aK4 S' l
 |[],_=>rfl
 |x::r,h=>by
  simp only[aK4]
  rw[V7 (x:=x) fun j hj=>h j (by simp[AV.idsL,hj]),av1 (l:=r) fun j hj=>h j (by simp[AV.idsL,hj])]
theorem P3:∀{l:List AV},(∀j∈AV.idsL l,knd (S j)=knd (S' j))->ab1 S l=ab1 S' l
 |[],_=>rfl
 |.agg c::r,h=>by
  simp only[ab1]
  rw[av1 (l:=c) fun j hj=>h j (by simp[AV.idsL,AV.ids,hj]),P3 (l:=r) fun j hj=>h j (by simp[AV.idsL,hj])]
 |.v x::r,h=>by
  simp only[ab1]
  rw[V7 (x:=.v x) fun j hj=>h j (by simp[AV.idsL,hj]),P3 (l:=r) fun j hj=>h j (by simp[AV.idsL,hj])]
 |.ptr x y::r,h=>by
  simp only[ab1]
  rw[V7 (x:=.ptr x y) fun j hj=>h j (by simp[AV.idsL,hj]),P3 (l:=r) fun j hj=>h j (by simp[AV.idsL,hj])]
 |.ea x y z u::r,h=>by
  simp only[ab1]
  rw[V7 (x:=.ea x y z u) fun j hj=>h j (by simp[AV.idsL,hj]),P3 (l:=r) fun j hj=>h j (by simp[AV.idsL,hj])]
 |.ref x::r,h=>by
  simp only[ab1]
  rw[V7 (x:=.ref x) fun j hj=>h j (by simp[AV.idsL,hj]),P3 (l:=r) fun j hj=>h j (by simp[AV.idsL,hj])]
 |.fn x y::r,h=>by
  simp only[ab1]
  rw[V7 (x:=.fn x y) fun j hj=>h j (by simp[AV.idsL,hj]),P3 (l:=r) fun j hj=>h j (by simp[AV.idsL,hj])]
 |.bm x y::r,h=>by
  simp only[ab1]
  rw[V7 (x:=.bm x y) fun j hj=>h j (by simp[AV.idsL,hj]),P3 (l:=r) fun j hj=>h j (by simp[AV.idsL,hj])]
 |.tref x::r,h=>by
  simp only[ab1]
  rw[V7 (x:=.tref x) fun j hj=>h j (by simp[AV.idsL,hj]),P3 (l:=r) fun j hj=>h j (by simp[AV.idsL,hj])]
 |.tup x::r,h=>by
  simp only[ab1]
  rw[V7 (x:=.tup x) fun j hj=>h j (by simp[AV.idsL,hj]),P3 (l:=r) fun j hj=>h j (by simp[AV.idsL,hj])]
end
theorem bD6{x:AV}(h:∀j∈x.ids,knd (S j)=knd (S' j)):aD5 S x=aD5 S' x:=by
 cases x<;>simp only[aD5]
 case agg l=>exact av1 fun j hj=>h j (by simpa[AV.ids]using hj)
 all_goals exact V7 h
theorem bs6{tm:Nat->Option AV}{l:List Nat}{t:Nat}{y:AV}(ht:t∈l)(hy:tm t=some y){j:Nat}(hj:j∈y.ids):j∈Y8 tm l:=List.mem_flatMap.2 ⟨y,List.mem_filterMap.2 ⟨t,ht,hy⟩,hj⟩
theorem bz7{P:Program}{dk:TypeId->Nat}{tm:Nat->Option AV}{op:Op}{id:Nat}(hs:∀j∈tch tm op,S' j=S j)(hk:∀j∈wk tm op,knd (S' j)=knd (S j)):au0 P dk (ev (rtm tm (opT op))) (rS S' (tch tm op++wk tm op)) id op=au0 P dk (ev (rtm tm (opT op))) (rS S (tch tm op++wk tm op)) id op:=by
 have plain:wk tm op=[]->au0 P dk (ev (rtm tm (opT op))) (rS S' (tch tm op++wk tm op)) id op=au0 P dk (ev (rtm tm (opT op))) (rS S (tch tm op++wk tm op)) id op:=fun e=>by
  rw[e,List.append_nil]
  have:rS S' (tch tm op)=rS S (tch tm op):=by
   funext j
   unfold rS
   split
   ·rename_i hm;exact hs j (v5.1 hm)
   rfl
  rw[this]
 cases op with
 | store t x y =>
  cases hx:ev (rtm tm (opT (.store t x y))) x with
  |none=>exact plain (by simp only[wk,hx])
  | some v =>
   cases v with
   | ptr b off =>
    cases hy:ev (rtm tm (opT (.store t x y))) y with
    |none=>simp only[au0,ak9,hx,hy,ac6]
    | some u =>
     have e1:tch tm (.store t x y)=[b]:=by simp only[tch,hx]
     have e2:wk tm (.store t x y)=Y8 tm (opT (.store t x y)):=by simp only[wk,hx]
     rw[e1]at hs ⊢
     rw[e2]at hk ⊢
     have e3:rS S' ([b]++Y8 tm (opT (.store t x y))) b=rS S ([b]++Y8 tm (opT (.store t x y))) b:=by
      unfold rS
      split
      ·exact hs b ao
      rfl
     have hyi:∀j∈u.ids,j∈Y8 tm (opT (.store t x y)):=fun j hj=>by
      cases y with
      |tmp s=>
       simp only[ev,rtm]at hy
       split at hy
       ·rename_i hm;exact bs6 (v5.1 hm) hy hj
       cases hy
      |const c=>cases hy;simp[AV.ids,AV.idsL]at hj
      |global g=>cases hy<;>simp[AV.ids,AV.idsL]at hj
      |func f=>cases hy<;>simp[AV.ids,AV.idsL]at hj
     have e4:aD5 (rS S' ([b]++Y8 tm (opT (.store t x y)))) u=aD5 (rS S ([b]++Y8 tm (opT (.store t x y)))) u:=bD6 fun j hj=>by
      unfold rS
      split
      ·rename_i hm
       rcases cp2.1 (v5.1 hm)with h|h
       ·rw[hs j h]
       exact hk j h
      rfl
     simp only[au0,ac6,ak9,hx,hy,ae1,e3,e4]
   |_=>exact plain (by simp only[wk,hx])
 |_=>exact plain rfl
end
section
variable{P:Program}{ι:Type}{φ ψ:Nat->Prop}{w0 w w':World}{F:ι->Rs}{ρ:Nat->Value}{S:Nat->It}
theorem ar1{S S':Nat->It}{j:Nat}(h:S j=S' j):∀(l:List (Nat×It)),n5 S l j=n5 S' l j
 |[]=>h
 |(k,x)::r=>by simp only[n5];split;rfl;exact ar1 h r
theorem N5.frame{o:Oper}{g:Operand->Value}{t:Tr}(l:List Nat)(M:k8 φ ψ w0 w (n6 F ρ S))(hi:Inv S ρ t.made)(hmk:∀j∈t.made,S j=.none)(hnew:∀j∈t.new.map (·.1),j∈l\/S j=.none)
  (h:∀{κ:Type} (F':κ->Rs),k8 φ ψ w0 w (n6 F' ρ (rS S l))->Inv (rS S l) ρ t.made->(∀j∈t.made,rS S l j=.none)->N5 P o g w (K7 φ ψ w0 F' ρ (rS S l) t)):N5 P o g w (K7 φ ψ w0 F ρ S t):=by
 let F':ι ⊕ Nat->Rs:=fun k=>match k with|.inl i=>F i|.inr j=>if memN j l then Rs.none else(S j).res ρ j
 have M1:k8 φ ψ w0 w (n6 F' ρ (rS S l)):=by
  refine M.map (fun k:(ι ⊕ Nat) ⊕ Nat=>(match k with|.inl (.inl i)=>some (.inl i)|.inl (.inr j)=>if memN j l then none else some (.inr j)|.inr j=>if memN j l then some (.inr j)else none:Option (ι ⊕ Nat))) ?_ ?_
  ·intro k k' x h1 h2
   match k,k' with
   |.inl (.inl i),.inl (.inl i')=>simp at h1 h2;subst h1;simpa using h2.symm
   |.inl (.inl i),.inl (.inr j')=>simp at h1;subst h1;simp at h2
   |.inl (.inl i),.inr j'=>simp at h1;subst h1;simp at h2
   |.inl (.inr j),.inl (.inl i')=>simp at h2;subst h2;simp at h1
   |.inr j,.inl (.inl i')=>simp at h2;subst h2;simp at h1
   |.inl (.inr j),.inl (.inr j')=>simp at h1 h2;rw[<-h1.2]at h2;rw[Sum.inr.inj h2.2]
   |.inl (.inr j),.inr j'=>
    simp at h1 h2
    rw[<-h1.2]at h2
    have:=Sum.inr.inj h2.2
    subst this
    rw[h1.1]at h2;cases h2.1
   |.inr j,.inl (.inr j')=>
    simp at h1 h2
    rw[<-h1.2]at h2
    have:=Sum.inr.inj h2.2
    subst this
    rw[h1.1]at h2;cases h2.1
   |.inr j,.inr j'=>simp at h1 h2;rw[<-h1.2]at h2;rw[Sum.inr.inj h2.2]
  intro k
  match k with
  |.inl (.inl i)=>exact .inl ⟨.inl i,rfl,rfl⟩
  |.inl (.inr j)=>
   cases hm:memN j l
   ·exact .inl ⟨.inr j,by simp[hm],by simp[n6,F',hm]⟩
   exact .inr (by simp[n6,F',hm])
  |.inr j=>
   cases hm:memN j l
   ·exact .inr (by simp[n6,rS,hm,It.res])
   exact .inl ⟨.inr j,by simp[hm],by simp[n6,rS,hm]⟩
 have hi1:Inv (rS S l) ρ t.made:=fun ρ' ha j=>by
  unfold rS
  split
  ·exact hi ρ' ha j
  rfl
 refine(h F' M1 hi1 fun j hj=>by unfold rS;split;exact hmk j hj;rfl).mono ?_
 rintro v w' ⟨ρ',ha,M2,rfl⟩
 refine⟨ρ',ha,?_,rfl⟩
 refine M2.map (fun k:ι ⊕ Nat=>(match k with|.inl i=>some (.inl (.inl i))|.inr j=>if memN j l||memN j (t.new.map (·.1))then some (.inr j)else some (.inl (.inr j)):Option ((ι ⊕ Nat) ⊕ Nat))) ?_ ?_
 ·intro k k' x h1 h2
  match k,k' with
  |.inl i,.inl i'=>simp at h1 h2;rw[<-h1]at h2;simpa using h2.symm
  |.inl i,.inr j=>simp only at h1 h2;cases h1;split at h2<;>simp at h2
  |.inr j,.inl i=>simp only at h1 h2;cases h2;split at h1<;>simp at h1
  |.inr j,.inr j'=>
   simp only at h1 h2
   split at h1<;>split at h2<;>simp at h1 h2<;>subst h1<;>simp at h2<;>rw[h2]
 intro k
 match k with
 |.inl i=>exact .inl ⟨_,rfl,rfl⟩
 | .inr j =>
  cases hc:(memN j l||memN j (t.new.map (·.1)))
  ·refine .inl ⟨.inl (.inr j),by simp only[hc];rfl,?_⟩
   simp only[Bool.or_eq_false_iff]at hc
   simp only[n6,F',hc.1]
   rw[at8 fun hh=>by rw[v5.2 hh]at hc;cases hc.2]
   exact hi ρ' ha j
  refine .inl ⟨.inr j,by simp only[hc,if_true],?_⟩
  simp only[n6]
  cases hm:memN j l
  ·rw[hm]at hc
   simp only[Bool.false_or]at hc
   rcases hnew j (v5.1 hc)with h1|h1
   ·rw[v5.2 h1]at hm;cases hm
   rw[ar1 (S:=rS S l) (S':=S) (by unfold rS;rw[hm,h1];rfl)]
  rw[ar1 (S:=rS S l) (S':=S) (by unfold rS;rw[hm];rfl)]
theorem bh7{tm:Nat->Option AV}{l:List Nat}{a:Act}{x:Operand}{v:AV}(ht:∀t y,t∈l->tm t=some y->a.tmps[t]? =some (y.val ρ))(h:ev (rtm tm l) x=some v):a.eval x=v.val ρ:=by
 cases x with
 | tmp t =>
  simp only[ev,rtm]at h
  split at h
  ·rename_i hm
   have:=ht t v (v5.1 hm) h
   simp[Act.eval,Array.getD_eq_getD_getElem?,this]
  cases h
 |const c=>cases h;rfl
 |global g=>cases h;rfl
 |func f=>cases h;rfl
theorem bO4(M:k8 φ ψ w0 w (n6 F ρ S)){o:Oper}{e:Operand->Option AV}{g:Operand->Value}(hg:∀x,∀v,e x=some v->g x=v.val ρ){d:Option (Bool×Bool)}{r:Tr}(h:aY5 d e o.op=some r)(hd:∀p,d=some p->p.1=p.2)(he:(aY6 d e o.op).1=(aY6 d e o.op).2):N5 P o g w (K7 φ ψ w0 F ρ S r):=by
 cases hop:o.op<;>rw[hop]at h he<;>simp only[aY5]at h<;>first|cases h|skip
 rename_i c a b
 split at h
 case h_2=>cases h
 rename_i d' x hx
 obtain⟨v,h1,h2⟩:=cn9.1 h
 subst h2
 simp only[aY6,hx,List.cons.injEq,Prod.mk.injEq,and_true,AV.v.injEq,Value.bool.injEq]at he
 have hc:=hg c _ hx
 have hv:=hg _ _ h1
 have hx2:x=d'.2:=he.trans (hd d' rfl)
 refine .inl ⟨v.val ρ,w,?_,ρ,D4.refl _ _,M,rfl⟩
 simp only[execOp,hop,hc,AV.val,hx2]
 cases hdd:d'.2<;>rw[hdd]at hv<;>simp[asBool]at hv ⊢ <;>exact hv
def b98(l:List Nat)(made:List Nat)(t:Tr):Bool:=t.new.all fun p=>memN p.1 l||memN p.1 made
theorem a62(M:k8 φ ψ w0 w (n6 F ρ S)){dk:TypeId->Nat}{H:V3}(hH:∀i c τ,O6 H.calls i=some (c,τ)->c.ok P)(hF:S9 H.facts){tm:Nat->Option AV}{a:Act}{o:Oper}(ht:∀t y,t∈opT o.op->tm t=some y->a.tmps[t]? =some (y.val ρ)){id i:Nat}{r:Tr}(h:aK2 P dk H tm S id i o.op=some r)(ho:x6 r.obs)(he:(bf7 H tm S id i o.op).1=(bf7 H tm S id i o.op).2)(hmk:∀j∈r.made,S j=.none)(hi:Inv S ρ r.made)
  (hnew:∀j∈r.new.map (·.1),j∈tch tm o.op++(match O6 H.calls i with|some (_,τ)=>τ|none=>[])\/j∈r.made):
  N5 P o a.eval w (K7 φ ψ w0 F ρ S r):=by
 unfold aK2 at h
 unfold bf7 at he
 split at h
 ·rename_i c τ hcl
  rw[hcl]at hnew he
  refine N5.frame (tch tm o.op++τ) M hi hmk (fun j hj=>(hnew j hj).imp (fun h=>h) (hmk j)) fun F' M' hi' hmk'=>?_
  exact bS3 M' (e:=ev (rtm tm (opT o.op))) (fun x _ v hv=>bh7 ht hv) (hH i c τ hcl) h he hmk' hi'
 rename_i hcl
 rw[hcl]at hnew he
 refine N5.frame (tch tm o.op++wk tm o.op) M hi hmk (fun j hj=>(hnew j hj).imp (fun h=>List.mem_append_left _ (by simpa using h)) (hmk j)) fun F' M' hi' hmk'=>?_
 split at h
 ·rename_i q hq
  cases h
  exact bO4 M' (e:=ev (rtm tm (opT o.op))) (fun x v hv=>bh7 ht hv) hq (fun p hp=>a83 hF hp) he
 exact bz8 M' (e:=ev (rtm tm (opT o.op))) (fun x _ v hv=>bh7 ht hv) h ho hmk' hi'
theorem at7{ops:List Oper}{H:V3}(hF:S9 H.facts){tm:Nat->Option AV}{i:Nat}{o:Oper}{a:Act}{b:Bool}{l r:List AV}(h:aH9 ops H tm i o=some (b,l,r))(ho:l=r)
  (ht:∀t y,(∃j wnt,o.guard=some (j,wnt)/\(ops[j]?).bind (·.dst)=some t)->tm t=some y->a.tmps[t]? =some (y.val ρ)):Region.wanted o (yielded ops.toArray a.tmps)=b:=by
 unfold aH9 at h
 unfold Region.wanted
 cases hg:o.guard with
 |none=>rw[hg]at h;cases h;rfl
 | some q =>
  obtain⟨j,want⟩:=q
  rw[hg]at h
  simp only at h ⊢
  split at h
  case h_1=>cases h
  rename_i t hd
  have hy:∀y,tm t=some y->a.tmps[t]? =some (y.val ρ):=fun y hy=>ht t y ⟨j,want,hg,hd⟩ hy
  unfold yielded
  rw[show((ops.toArray[j]?).bind (·.dst)).bind (a.tmps[·]?)=a.tmps[t]? by simp only[List.getElem?_toArray,hd];rfl]
  split at h
  ·rename_i x b' hb
   rw[hy _ hb]
   obtain⟨d,h1,h2⟩:=cn9.1 h
   cases h2
   simp only[List.cons.injEq,AV.v.injEq,Value.bool.injEq,and_true]at ho
   simp only[AV.val]
   rw[ho,a83 hF h1]
   rfl
  ·rename_i x b' hb
   rw[hy _ hb]
   cases h
   rfl
  cases h
end
structure Ac where
 dst:Option Nat
 t:Tr
 want:Bool
 rt:List Nat
 ri:List Nat
 eqs:List (List AV×List It)×List (List AV×List It)
 eqw:List AV×List AV
 rk:List Nat
def b03:Tr:=⟨[],[],.v undef,[]⟩
def bf0(dst:Option Nat)(x:AV)(tm:List (Nat×AV)):List (Nat×AV):=
 match dst with
 |some d=>(d,x)::tm
 |none=>tm
def aP4(dst:Option Nat)(x:AV)(tm:Nat->Option AV):Nat->Option AV:=fun t=>if dst=some t then some x else tm t
def bH8(N:Nat)(dst:Option Nat):Bool:=match dst with|some d=>decide (d<N)|none=>true
def a89(n:Nat)(t:Tr):Bool:=
 t.new.all (fun p=>decide (p.1<n+8)&&X1 (n+8) p.2.ids)&&t.made.all (fun j=>decide (n<=j)&&decide (j<n+8))&&X1 (n+8) t.res.ids
def a07(ops:List Oper)(o:Oper):List Nat:=
 match o.guard with
 |some (j,_)=>((ops[j]?).bind (·.dst)).toList
 |none=>[]
def br3(H:V3)(i:Nat):List Nat:=match O6 H.calls i with
 |some (_,τ)=>τ
 |none=>[]
def opA(P:Program)(dk:TypeId->Nat)(N:Nat)(ops:List Oper)(H:V3)(i:Nat)(o:Oper)(tm:Nat->Option AV)(S:Nat->It)(n:Nat):Option (Ac×List Prop):=
 if bH8 N o.dst then
  match aH9 ops H tm i o with
  |none=>none
  |some (false,l,r)=>some (⟨o.dst,b03,false,a07 ops o,[],([],[]),(l,r),[]⟩,[])
  | some (true, l, r) =>
   match aK2 P dk H tm S n i o.op with
   |none=>none
   |some t=>
    if a89 n t&&b98 (tch tm o.op++br3 H i) t.made t then some (⟨o.dst,t,true,opT o.op++a07 ops o,tch tm o.op++br3 H i,bf7 H tm S n i o.op,(l,r),wk tm o.op⟩,t.obs)else none
 else none
structure RS where
 acts:List Ac
 obs:List Prop
 tm:List (Nat×AV)
 S:Nat->It
def Z4(P:Program)(dk:TypeId->Nat)(N:Nat)(ops:List Oper)(H:V3):List Oper->Nat->List (Nat×AV)->(Nat->It)->Nat->Option RS
 |[],_,tm,S,_=>some ⟨[],[],tm,S⟩
 | o :: r, i, tm, S, n =>
  match opA P dk N ops H i o (B9 tm) S n with
  |none=>none
  |some (a,ob)=>
   match Z4 P dk N ops H r (i+1) (bf0 a.dst a.t.res tm) (n5 S a.t.new) (n+8)with
   |none=>none
   |some s=>some ⟨a::s.acts,ob++s.obs,s.tm,s.S⟩
section
variable{P:Program}{ι:Type}{φ ψ:Nat->Prop}{w0 w w':World}{F:ι->Rs}{ρ:Nat->Value}{S:Nat->It}{N m n:Nat}{ρ0:Nat->Value}
structure Inn(φ ψ:Nat->Prop)(w0:World)(F:ι->Rs)(N m:Nat)(ρ0:Nat->Value)(n:Nat)(ρ:Nat->Value)(tm:Nat->Option AV)(S:Nat->It)(a:Act)(w:World):Prop where
 size:a.tmps.size=N
 defs:a.defers=[]
 tmv:∀t x,tm t=some x->a.tmps[t]? =some (x.val ρ)
 tmi:∀t x,tm t=some x->∀id∈x.ids,id<n
 bd:∀j,(∀id∈(S j).ids,id<n)/\(n<=j->S j=.none)
 mem:k8 φ ψ w0 w (n6 F ρ S)
 le:m<=n
 old:∀i,i<m->ρ i=ρ0 i
theorem Inn.inv{tm:Nat->Option AV}{a:Act}(I:Inn φ ψ w0 F N m ρ0 n ρ tm S a w){mk:List Nat}(h:∀j∈mk,n<=j):Inv S ρ mk:=fun ρ' ha j=>by
 have hlt:∀id,id<n->ρ' id=ρ id:=fun id hid=>ha id fun hm=>by have:=h id hm;omega
 refine It.res_congr _ (fun id hid=>hlt id ((I.bd j).1 id hid)) ?_
 rcases cp1 j n with hj|hj
 ·exact .inr (.inr (hlt j hj))
 exact .inl ((I.bd j).2 hj)
theorem aS9{dst:Option Nat}{x:AV}{tm:List (Nat×AV)}:B9 (bf0 dst x tm)=aP4 dst x (B9 tm):=by
 funext t
 cases dst with
 |none=>simp[bf0,aP4]
 |some d=>
  simp only[bf0,B9,aP4,natEq]
  by_cases h:t=d
  ·subst h;simp
  simp[h,Ne.symm h]
theorem ag7{t:Tr}(h:a89 n t=true):(∀p∈t.new,p.1<n+8/\∀id∈p.2.ids,id<n+8)/\(∀j∈t.made,n<=j/\j<n+8)/\∀id∈t.res.ids,id<n+8:=by
 simp only[a89,cm9]at h
 refine⟨fun p hp=>?_,fun j hj=>?_,D8 h.2⟩
 ·have:=cn8.1 h.1.1 p hp
  simp only[cm9,decide_eq_true_eq]at this
  exact⟨this.1,D8 this.2⟩
 have:=cn8.1 h.1.2 j hj
 simpa using this
theorem bL6{l:List (Nat×It)}{m:Nat}(hS:∀j,(∀id∈(S j).ids,id<m)/\(m<=j->S j=.none))(h:∀p∈l,p.1<m/\∀id∈p.2.ids,id<m):∀j,(∀id∈(n5 S l j).ids,id<m)/\(m<=j->n5 S l j=.none):=by
 induction l with
 |nil=>exact hS
 | cons p r ih =>
  obtain⟨k,x⟩:=p
  intro j
  have hp:=h (k,x) cr0
  simp only at hp
  simp only[n5]
  by_cases e:j=k
  ·rw[if_pos e]
   exact⟨hp.2,fun hm=>by omega⟩
  rw[if_neg e]
  exact ih (fun p hp=>h p (cq8 _ hp)) j
theorem a56(a:Act)(dst:Option Nat)(v:Value):(a.put dst v).tmps.size=a.tmps.size:=by cases dst<;>simp[Act.put]
theorem a57(a:Act)(dst:Option Nat)(v:Value):(a.put dst v).defers=a.defers:=by cases dst<;>simp[Act.put]
theorem bC2{a:Act}{dst:Option Nat}{v:Value}{t:Nat}(h:bH8 a.tmps.size dst=true):(a.put dst v).tmps[t]? =if dst=some t then some v else a.tmps[t]? :=by
 cases dst with
 |none=>simp[Act.put]
 |some d=>
  have hd:d<a.tmps.size:=by simpa[bH8]using h
  simp only[Act.put,Option.some.injEq]
  rw[Array.getElem?_setIfInBounds]
  by_cases e:d=t
  ·subst e;simp[hd]
  simp[e]
theorem Inn.next{tm:Nat->Option AV}{a:Act}(I:Inn φ ψ w0 F N m ρ0 n ρ tm S a w){t:Tr}{dst:Option Nat}(hd:bH8 N dst=true)(hf:a89 n t=true){ρ':Nat->Value}(ha:D4 t.made ρ ρ')(M:k8 φ ψ w0 w' (n6 F ρ' (n5 S t.new))):
  Inn φ ψ w0 F N m ρ0 (n+8) ρ' (aP4 dst t.res tm) (n5 S t.new) (a.put dst (t.res.val ρ')) w':=by
 obtain⟨h1,h2,h3⟩:=ag7 hf
 have hlt:∀id,id<n->ρ' id=ρ id:=fun id hid=>ha id fun hm=>by have:=(h2 id hm).1;omega
 refine⟨(a56 _ _ _).trans I.size,(a57 _ _ _).trans I.defs,fun s x hx=>?_,fun s x hx=>?_,bL6 (fun j=>⟨fun id hid=>by have:=(I.bd j).1 id hid;omega,fun hj=>(I.bd j).2 al⟩) h1,M,by have:=I.le;omega,fun i hi=>(hlt i (by have:=I.le;omega)).trans (I.old i hi)⟩
 ·rw[bC2 (by rw[I.size];exact hd)]
  simp only[aP4]at hx
  split
  ·rename_i e;rw[if_pos e]at hx;cases hx;rfl
  rename_i e
  rw[if_neg e]at hx
  rw[I.tmv s x hx,AV.val_congr x fun id hid=>hlt id (I.tmi s x hx id hid)]
 simp only[aP4]at hx
 split at hx
 ·cases hx;exact h3
 intro id hid;have:=I.tmi s x hx id hid;omega
theorem bZ6{dk:TypeId->Nat}{H:V3}(hH:∀i c τ,O6 H.calls i=some (c,τ)->c.ok P)(hF:S9 H.facts){ops:List Oper}{i:Nat}{o:Oper}{tm:Nat->Option AV}{a:Act}(I:Inn φ ψ w0 F N m ρ0 n ρ tm S a w){ac:Ac}{obs:List Prop}(h:opA P dk N ops H i o tm S n=some (ac,obs))(ho:x6 obs)(he:ac.eqs.1=ac.eqs.2)(hw':ac.eqw.1=ac.eqw.2)
  {Q:Exit->Act->World->Prop} {rest:List Oper} (hk:∀ρ' w',D4 ac.t.made ρ ρ'->k8 φ ψ w0 w' (n6 F ρ' (n5 S ac.t.new))->wpList P ops.toArray Q rest (a.put o.dst (ac.t.res.val ρ')) w'):wpList P ops.toArray Q (o::rest) a w:=by
 unfold opA at h
 split at h
 case isFalse=>cases h
 rename_i hd
 split at h
 case h_1=>cases h
 ·rename_i l r hw
  cases h
  refine bn0 (at7 (ρ:=ρ) hF hw hw' fun t y _ hy=>I.tmv t y hy) ?_
  exact hk ρ w (D4.refl _ _) (by simpa[b03,n5]using I.mem)
 rename_i l r hw
 split at h
 case h_1=>cases h
 rename_i t ht
 split at h
 case isFalse=>cases h
 rename_i hf
 cases h
 simp only[cm9]at hf
 obtain⟨h1,h2,h3⟩:=ag7 hf.1
 refine N5.wp (at7 (ρ:=ρ) hF hw hw' fun t y _ hy=>I.tmv t y hy) ?_
 refine(a62 I.mem hH hF (fun t y _ hy=>I.tmv t y hy) ht ho he (fun j hj=>(I.bd j).2 (h2 j hj).1) (I.inv fun j hj=>(h2 j hj).1) (fun j hj=>?_)).mono ?_
 ·obtain⟨p,hp,rfl⟩:=List.mem_map.1 hj
  have:=cn8.1 hf.2 p hp
  simp only[cr2]at this
  exact this.imp v5.1 v5.1
 rintro v w' ⟨ρ',p1,p2,rfl⟩
 exact hk ρ' w' p1 p2
theorem aY8{dk:TypeId->Nat}{H:V3}{ops:List Oper}{i:Nat}{o:Oper}{tm:Nat->Option AV}{ac:Ac}{obs:List Prop}(h:opA P dk N ops H i o tm S n=some (ac,obs)):ac.dst=o.dst/\bH8 N o.dst=true/\a89 n ac.t=true:=by
 unfold opA at h
 split at h
 case isFalse=>cases h
 rename_i hd
 split at h
 case h_1=>cases h
 ·cases h;exact⟨rfl,hd,rfl⟩
 split at h
 case h_1=>cases h
 split at h
 case isFalse=>cases h
 rename_i hf
 cases h
 simp only[cm9]at hf
 exact⟨rfl,hd,hf.1⟩
theorem bn3{dk:TypeId->Nat}{H:V3}(hH:∀i c τ,O6 H.calls i=some (c,τ)->c.ok P)(hF:S9 H.facts){ops:List Oper}{Q:Exit->Act->World->Prop}:∀(l:List Oper) (i n:Nat) {tm:List (Nat×AV)} {S:Nat->It} {ρ:Nat->Value} {a:Act} {w:World} {r:RS},Inn φ ψ w0 F N m ρ0 n ρ (B9 tm) S a w->Z4 P dk N ops H l i tm S n=some r->x6 r.obs->r.acts.map (·.eqs.1)=r.acts.map (·.eqs.2)->r.acts.map (·.eqw.1)=r.acts.map (·.eqw.2)->
  (∀ρ' a' w' n',Inn φ ψ w0 F N m ρ0 n' ρ' (B9 r.tm) r.S a' w'->Q .normal a' w')->wpList P ops.toArray Q l a w
 |[],i,n,tm,S,ρ,a,w,r,I,h,_,_,_,hk=>by cases h;exact hk _ _ _ _ I
 | o :: l, i, n, tm, S, ρ, a, w, r, I, h, ho, he, hw', hk => by
  simp only[Z4]at h
  split at h
  case h_1=>cases h
  rename_i ac ob h1
  split at h
  case h_1=>cases h
  rename_i s h2
  cases h
  simp only[x6.append]at ho
  simp only[cq5,List.cons.injEq]at he hw'
  obtain⟨q1,q2,q3⟩:=aY8 h1
  refine bZ6 hH hF I h1 ho.1 he.1 hw'.1 fun ρ' w' ha M=>?_
  have I':Inn φ ψ w0 F N m ρ0 (n+8) ρ' (B9 (bf0 ac.dst ac.t.res tm)) (n5 S ac.t.new) (a.put o.dst (ac.t.res.val ρ')) w':=by
   rw[aS9,q1]
   exact I.next q2 q3 ha M
  exact bn3 hH hF l (i+1) (n+8) I' h2 ho.2 he.2 hw'.2 hk
end
end Go.Proofs.YtfbeblgnjeokaaaGreat
