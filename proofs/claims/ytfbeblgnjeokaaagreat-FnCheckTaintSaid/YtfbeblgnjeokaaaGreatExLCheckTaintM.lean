/-
  LCheckTaint: the statement, whatever the argument. Conditions: none beyond the statement's own.
-/
import Derived.Test.YtfbeblgnjeokaaaGreatK1
import Derived.Test.YtfbeblgnjeokaaaGreatK2
import Derived.Test.YtfbeblgnjeokaaaGreatK3
import Derived.Test.YtfbeblgnjeokaaaGreatK4
import Derived.Test.YtfbeblgnjeokaaaGreatK5
import Derived.Test.YtfbeblgnjeokaaaGreatK6
import Derived.Test.YtfbeblgnjeokaaaGreatK7
import Derived.Test.YtfbeblgnjeokaaaGreatK8
import Derived.Test.YtfbeblgnjeokaaaGreatEnter1M
import Derived.Test.YtfbeblgnjeokaaaGreatEnter2M
import Derived.Test.YtfbeblgnjeokaaaGreatEnter3M
set_option maxRecDepth 100000
set_option maxHeartbeats 16000000
set_option linter.unusedVariables false
set_option linter.unusedSimpArgs false
open Bool renaming not_eq_false' → cp7, not_eq_true' → co9
open Nat renaming le_refl → cn4, le_trans → cp4, zero_le → cp5
open True renaming intro → co8
namespace Go.Proofs.YtfbeblgnjeokaaaGreat.exLCheckTaint
open Go Go.RowKit Go.Proofs.YtfbeblgnjeokaaaGreat
noncomputable section
abbrev ktC(c:List UInt8)(v u:List Int)(l:List d7)(m:List (List Bool)):j7:=⟨22,[.ref 0],[dY c],[dY c,dI v,dI u,dN l,.dat (.brows m)],.tup [pA 1,.ref 4]⟩
abbrev X6:It:=.box [.v (.slice none 0 0),.v (.slice none 0 0),.v (.slice none 0 0)]
theorem bB2(c b:List UInt8)(kv ka v u:List Int)(kl l:List d7)(m:List (List Bool))(j1 j2 j3:Int)
  (h0:j7.ok Tryz.prog ⟨26,[.ref 0],[dY c],[dY c,.box [.ref 2,iA 0],dY b],.ptr 1 0⟩)
  (h1:j7.ok Tryz.prog ⟨27,[.ptr 0 0],[.box [.ref 1,iA 0],dY b],[.box [.ref 1,iA j1],dY b,rI kv,rI ka,rN kl],pA 2⟩)
  (h2:j7.ok Tryz.prog ⟨58,[.ptr 0 0,pA 2],[.box [.ref 1,iA j1],dY b,dI kv,dI ka,dN kl],[.box [.ref 1,iA j2],dY b,dI kv,dI ka,dN kl,rI v,rI u,rN l],pA 5⟩)
  (h3:j7.ok Tryz.prog ⟨59,[.ptr 0 0,pA 2],[.box [.ref 1,iA j2],dY b,dI v,dI u,dN l],[.box [.ref 1,iA j3],dY b,dI v,dI u,dN l,.dat (.brows m)],.ref 5⟩):j7.ok Tryz.prog (ktC c v u l m):=by
 have ho:=h0;have hco:=h1;have hmu:=h2;have hta:=h3;refine H9 16 Tryz.func22 [dY c] [(0,.ref 0)] fun G=>?_;refine wp_seq (j9 G f8 [0,1] [dY c,X6] [(0,.ref 0),(2,.ptr 1 0),(3,.v (.slice none 0 0))] fun G=>b6 (wp_seq (j9 G (v8 1 [0] ho) [0,1,10,11] [dY c,X6,.box [.ref 3,iA 0],dY b] [(2,.ptr 1 0),(3,.v (.slice none 0 0)),(4,.ptr 2 0)] fun G=>b6 (wp_seq (j9 G (H5 (v7 2 [2,3] hco (v7 3 [2,3,20,21,22] (j7.lend hmu [.no,.no,.row 3,.row 3,.row 76]) H4)) fz []) [0,1,2,3,28,29,30,36] [dY c,X6,.box [.ref 3,iA j2],dY b,.row 3 (D.ints v),.row 3 (D.ints u),.row 76 (D.instrs l),.box (pL 4)] [(2,.ptr 1 0),(3,.v (.slice none 0 0)),(4,.ptr 2 0),(5,.ptr 7 0)] fun G=>b6 (wp_seq ?_))))));obtain⟨ρ,G⟩:=G.frz [.no,.no,.no,.no,.row 3,.row 3,.row 76] [dY c,.box [.v (.slice none 0 0),.v (.slice none 0 0),.v (.slice none 0 0)],.box [.ref 3,iA j2],dY b,dI v,dI u,dN l,.box (pL 4)] [(2,.ptr 1 0),(3,.v (.slice none 0 0)),(4,.ptr 2 0),(5,.ptr 7 0)];refine af6 G (v8 3 [2,3,4,5,6] hta) [0,0,0,6,15,31] [0,1,4,5,6,32] [dY c,.box (pL 2),dI v,dI u,dN l,.dat (D.brows m)] [(2,.ptr 1 0),(3,.ref 5)] fun G=>b6 (wp_ret ?_);exact O7 G [0,2,3,4,5]
theorem bI4(c:List UInt8):∃(v u:List Int) (l:List d7) (m:List (List Bool)),(v.length<=1000/\u.length<=1000/\l.length<=400)/\j7.ok Tryz.prog (ktC c v u l m):=by
 have h0:=bw9 c
 have h1:=bK1 (bsD c) 0 al al
 have hj:=nc0 (bsD c)
 generalize ncD (bsD c) 0=x at*
 obtain⟨⟨kv,ka,kl⟩,j1⟩:=x
 dsimp only at h1 hj
 have h2:=bi6 (bsD c) j1 kv ka kl ⟨al,al,al⟩ al al
 have hm:=ck0 (bsD c) j1 ⟨kv,ka,kl⟩
 unfold muC at h2
 generalize muD (bsD c) j1 ⟨kv,ka,kl⟩=y at*
 obtain⟨⟨v,u,l⟩,j2⟩:=y
 dsimp only at h2 hm
 have h3:=bv9 (bsD c) j2 ⟨v,u,l⟩ (by dsimp only;omega) al al
 exact⟨v,u,l,_,⟨al,al,al⟩,bB2 c (bsD c) kv ka v u kl l _ j1 j2 _ h0 h1 h2 h3⟩
section
variable(c:d9)
abbrev cdS:List It:=[dI c.vars,dI c.arrays,.dat (.instrs c.list)]
theorem b37:j7.ok Tryz.prog ⟨25,[pA 0],cdS c,cdS c++[.dat (.brows (ai6 c))],.tup [.ref 3,bA (aP8 c)]⟩:=b07 fun u w h=>aD7 u _ w h
theorem bi2{φ:Nat->Prop}{w:World}{ρ:Nat->Value}{S:List It}(h:∀i d,p6 (cdS c++S) i=.dat d->RD w φ d (ρ i)):v6 w (.agg #[ρ 0,ρ 1,ρ 2]) c:=⟨ρ 0,ρ 1,ρ 2,rfl,A4.row (h 0 _ rfl),A4.row (h 1 _ rfl),A4.row (h 2 _ rfl)⟩
theorem b39(m:List (List Bool)):j7.ok Tryz.prog (T7 23 [pA 0,.ref 3] (cdS c++[.dat (.brows m)]) (bA (as7 c m))):=aK3 fun φ w ρ h=>aD9 _ _ c m w (bi2 c h) (bB9 (h 3 _ rfl))
theorem b36(m:List (List Bool)):j7.ok Tryz.prog (T7 24 [pA 0,.ref 3] (cdS c++[.dat (.brows m)]) (bA (as7 c m))):=aK3 fun φ w ρ h=>aD3 _ _ c m w (bi2 c h) (bB9 (h 3 _ rfl))
theorem b38:j7.ok Tryz.prog (T7 8 [pA 0] (cdS c) (.tup [iA (S4 c).1,iA (S4 c).2])):=bO9 fun φ w ρ h=>al5 _ c w (bi2 (S:=[]) c h)
end
theorem bfl{b:Bool}(h:b=true)(h':b=false):False:=by rw[h]at h';cases h'
structure SnP(p m:List (List Bool))(K:Int)(f:Bool):Prop where
 len:p.length=m.length
 row:∀i r:Nat,r<(p.getD i []).length->r<(m.getD i []).length
 bit:∀i r:Nat,(p.getD i []).getD r false=true->(m.getD i []).getD r false=true
 chk:K=0
 inf:f=true
theorem be3(m:List (List Bool))(i:Nat):rowAt m (i:Int)=m.getD i []:=rfl
theorem b70{c:d9}{m:List (List Bool)}(h:as7 c m=true):SnP (ai6 c) m (S4 c).1 (aP8 c):=by
 obtain⟨hc,h2,h3⟩:=aU3 h
 obtain⟨p,hp⟩:=bF0 hc
 have h1:=bv6 h hp
 have e0:(S4 c).1=0:=by unfold S4;rw[if_pos hc, <-ae5 hp];exact h1.1
 have e1:=bG5 e0
 have e2:ai6 c=p:=by rw[e1.2.2,ae5 hp]
 rw[e2]
 refine⟨hp.1.1.trans h2.1.symm,fun i r hr=>?_,fun i r hr=>?_,e0,e1.2.1⟩
 ·rcases h1.2 i with h4|⟨h4,_⟩
  ·rw[be3]at h4;omega
  have h5:=A7 h2.2.1 i
  have h6:=A7 hp.1.2.1 i
  rw[be3]at h4 h5 h6
  omega
 exact(b33 (c:=c) h1.2 (i:=i) (k:=r) hr).2
theorem bQ2(c:d9):(ai6 c).length<=c.list.length:=by
 unfold ai6
 split
 ·unfold Y1
  split
  ·rename_i h;rw[h.choose_spec.1.1];exact cn4 _
  exact cp5 _
 exact cp5 _
theorem bQ1(c:d9)(i:Nat):((ai6 c).getD i []).length<=14:=by
 have h:(ai6 c).all D7=true:=by
  unfold ai6
  split
  ·exact aL5 c
  rfl
 have h1:=A7 h i
 rw[be3]at h1
 omega
abbrev C2(f:Bool)(K:Int)(r0:List (Nat×AV)):List (Nat×AV):=(2,bA false)::(4,.ref 1)::(6,iA K)::(8,.ref 2)::(9,bA f)::r0
theorem b83(c:List UInt8)(v u:List Int)(l:List d7)(m p:List (List Bool))(o f:Bool)(K A:Int)(hS:o=true->SnP p m K f)(hpl:p.length<=1000)(hpr:∀i,(p.getD i []).length<=14)
    (hd:j7.ok Tryz.prog (ktC c v u l m))
    (hi:j7.ok Tryz.prog (T7 23 [pA 0,.ref 3] [dI v,dI u,dN l,.dat (.brows m)] (bA o))) (hs:j7.ok Tryz.prog (T7 24 [pA 0,.ref 3] [dI v,dI u,dN l,.dat (.brows m)] (bA o)))
    (hc:j7.ok Tryz.prog (T7 8 [pA 0] [dI v,dI u,dN l] (.tup [iA K,iA A])))
    (hf:j7.ok Tryz.prog ⟨25,[pA 0],[dI v,dI u,dN l],[dI v,dI u,dN l,.dat (.brows p)],.tup [.ref 3,bA f]⟩):j7.ok Tryz.prog ⟨6,[.ref 0],[dY c],[dY c],bA true⟩:=by
  have hdr:=hd;have hci:=hi;have hcs:=hs;have hck:=hc;have hin:=hf;refine H9 92 Tryz.func6 [dY c] [(0,.ref 0)] fun G=>?_;refine wp_seq (l6 G f8 [(2,bA false)] fun G=>b6 (wp_seq (wp_seq (l6 G f8 [(14,bA (decide ((c.length:Int)>1048576)))] fun G=>b6 (rcD G (fun h0 q0=>?_) fun h0 q0=>?_)))))
  ·
   refine wp_skip (b6 (wp_seq (j9 G (v8 1 [0] hdr) [0,9,10,11,12,41] [dY c,dI v,dI u,dN l,.dat (D.brows m),.box (pL 1)] [(2,bA false),(3,.ptr 5 0),(4,.ref 4)] fun G=>b6 (wp_seq (l6 G (v8 2 [1,2,3,4] hci) [(5,bA o)] fun G=>b6 (wp_seq (wp_seq (l6 G (H5 (v7 3 [1,2,3,4] hcs H4) (fc (a:= !o==o) (b:=false) (by simp[h0]) fz) [(6,0),(7,0),(1008,0)]) [(31,bA !o)] fun G=>b6 ?_))))))));cases h1:(!o)
   ·
    have q1:(o)=true:=(Eq.mp (cp7 _) h1);refine rF G _ h1 (wp_skip (b6 (wp_seq (l6 G (v8 1 [1,2,3] hck) [(6,iA K)] fun G=>b6 (wp_seq (j9 G (v8 1 [1,2,3] hin) [0,4,14] [dY c,.dat (D.brows m),.dat (D.brows p)] (C2 f K []) fun G=>b6 (wp_seq (wp_seq (E8 G f8 (C2 f K [(10,iA 0)]) fun G=>b6 (wp_block ?_))))))))));refine t9 (κ:=Nat) (fun i=>i<=p.length) (fun i=>p.length-i) (fun i=>[dY c,.dat (D.brows m),.dat (D.brows p)]) (fun i=>(C2 f K [(10,iA i)])) 0 al (v9.at G _ _) ?_;clear G;intro i ρ a w hp G;refine wp_seq (wp_seq (E8 G f8 (C2 f K [(10,iA i),(50,bA (decide ((i:Int)<p.length)))]) fun G=>b6 (rcD G (fun h2 q2=>?_) fun h2 q2=>?_)))
    ·
     refine wp_exit (t7 (t7 (t5 (b6 (wp_seq ?_)))));cases h3:(K==0)
     · have q3:=ne_of_beq_false h3;exact False.elim (by exact absurd (hS ab).chk al)
     have q3:=eq_of_beq h3;refine j9 G (K0 (fc h3 fz) [(3,0),(1004,0)]) [0] [dY c] [(2,bA f)] fun G=>b6 (wp_ret ?_);exact K9 f G [0] ((hS ab).inf.symm)
    refine wp_skip (b6 (wp_seq (wp_block (wp_seq (E8 G f8 (C2 f K [(10,iA i),(11,iA 0)]) fun G=>b6 (wp_block ?_))))));refine t9 (κ:=Nat) (fun r=>r<=(p.getD i []).length) (fun r=>(p.getD i []).length-r) (fun r=>[dY c,.dat (D.brows m),.dat (D.brows p)]) (fun r=>(C2 f K [(10,iA i),(11,iA r)])) 0 al (v9.at G _ _) ?_;clear G;intro r ρ a w hp G;refine wp_seq (wp_seq (rB1 G f8 (C2 f K [(10,iA i),(11,iA r),(59,bA (decide ((r:Int)<((p.getD i []).length:Int))))]) (iX i i p.length []) (iK al co8) fun G=>b6 (rcD G (fun h4 q4=>?_) fun h4 q4=>?_)))
    · refine wp_exit (t7 (t7 (t5 (n4 (b6 (M8 G f8 [(10,iA ((i:Int)+1))] [wO ((i:Int)+1)] (o1 al) fun G=>b6 ?_))))));exact R2 G (i+1) al al [0,1,2]
    refine wp_skip (b6 (wp_seq (wp_block (wp_seq ?_))));cases h5:(((m.getD i []).length:Int)==0)
    ·
     have q5:=ne_of_beq_false h5;cases h6:((p.getD i []).getD r false)
     · refine M8 G (K0 (fc h5 (fc h6 fz)) (us [(7,14,0),(15,22,1),(23,23,0),(1023,1023,1),(1024,1024,0)])) [(86,bA false)] (iX i i m.length (iX i i p.length (iX r r ((p.getD i []).length) []))) (iK (by have h8:=(hS ab).len;omega) (iK al (iK al co8))) fun G=>b6 (rF G false aj (wp_skip (n4 (b6 (M8 G f8 [(11,iA ((r:Int)+1))] [wO ((r:Int)+1)] ⟨(by have h7:=hpr i;exact w64 al al),co8⟩ fun G=>b6 ?_)))));exact R2 G (r+1) al al [0,1,2]
     refine rB1 G (K0 (fc h5 (fc h6 fz)) (us [(7,14,0),(15,22,1),(23,23,0),(1023,1023,1),(1024,1024,0)])) (C2 f K [(10,iA i),(11,iA r),(86,.v (.bool !(m.getD i []).getD r false))]) (iX i i m.length (iX i i p.length (iX r r ((p.getD i []).length) (iX i i m.length (iX r r ((m.getD i []).length) []))))) (iK (by have h8:=(hS ab).len;omega) (iK al (iK al (iK (by have h8:=(hS ab).len;omega) (iK (by have h9:=(hS ab).row i r al;omega) co8))))) fun G=>b6 ?_;cases h7:(!(m.getD i []).getD r false)
     · have q7:((m.getD i []).getD r false)=true:=(Eq.mp (cp7 _) h7);refine rF G _ h7 (wp_skip (n4 (b6 (M8 G f8 [(11,iA ((r:Int)+1))] [wO ((r:Int)+1)] ⟨(by have h7:=hpr i;exact w64 al al),co8⟩ fun G=>b6 ?_))));exact R2 G (r+1) al al [0,1,2]
     have q7:((m.getD i []).getD r false)=false:=(Eq.mp (co9 _) h7);exact False.elim (bfl ((hS ab).bit i r ab) ab)
    have q5:=eq_of_beq h5;exact False.elim (by have h9:=(hS ab).row i r al;omega)
   have q1:(o)=false:=(Eq.mp (co9 _) h1);refine rT G _ h1 (wp_seq (l6 G (v8 3 [1,2,3,4] hcs) [(2,bA (o==o))] fun G=>b6 (wp_ret (l0 ?_))));exact K9 (o==o) G [0] (by rw[q1];rfl)
  refine wp_seq (l6 G f8 [(2,bA true)] fun G=>b6 (wp_ret (l0 ?_)));exact O7 G [0]
theorem ce8(c:List UInt8):j7.ok Tryz.prog ⟨6,[.ref 0],[dY c],[dY c],bA true⟩:=by
 obtain⟨v,u,l,m,hb,hd⟩:=bI4 c
 exact b83 c v u l m (ai6 ⟨v,u,l⟩) (as7 ⟨v,u,l⟩ m) (aP8 ⟨v,u,l⟩) (S4 ⟨v,u,l⟩).1 (S4 ⟨v,u,l⟩).2 b70 (cp4 (bQ2 _) (by dsimp only;omega)) (bQ1 _) hd (b39 ⟨v,u,l⟩ m) (b36 ⟨v,u,l⟩ m) (b38 ⟨v,u,l⟩) (b37 ⟨v,u,l⟩)
theorem cf8(u:Value)(c:List UInt8)(w:World)(hp:I6 w u c.length 1 (u8s c)):Calls Tryz.prog 6 #[u] w fun e w'=>e=.returned (.bool true)/\Below w.heap.size w w':=
 bx0 (ce8 c) u w (hp.rowF fun _ _=>trivial)
end
end Go.Proofs.YtfbeblgnjeokaaaGreat.exLCheckTaint

namespace Go.Proofs.YtfbeblgnjeokaaaGreat.exLCheckTaint
open Go Go.RowKit Go.ChangeShapes Go.WideShapes Go.ChangeAt Go.Proofs.YtfbeblgnjeokaaaGreat
theorem lifted(os:Os)(started:os.Started)(H:Type)(enc:TypeId×Value->H):
  ReturnsInHanded {} Tryz.checked os 6 .any (Rows.fnCheckTaintSpec.pre6 enc Tryz.prog Tryz.f6 Rows.fnCheckTaintRow.domain false) (Rows.fnCheckTaintSpec.post enc Tryz.prog Tryz.f6 false true false false):=by
 refine returnsInHanded_of_change (C:=Tryz.checked) own started aj Tryz.func6
  (ChangeSpec.witness6 (enc:=enc) (C:=Tryz.checked) false ⟨#[], #[.slice none 0 0],[]⟩ 8 aj aj aj aj) ?_
 intro W base args ds gs before hval0 hW hcnd _
 have hval:∀(j:Nat) t v,Tryz.f6.params[j]? =some t->args[j]? =some v->Value.okWide Tryz.prog W .any base t v:=hval0
 have hW':=hW
 obtain⟨p,q,hA0,hV,rfl,hfz,hnd⟩:=hW
 have hA:DataW.TrodAll enc Tryz.prog W 0 (fun _=>true) true Tryz.f6.params.toList args.toList ds p:=hA0
 rw[Tryz.params6]at hA hval
 obtain⟨v0,vs0,d0,ds0,p0,q0,hargs,rfl,rfl,h0,r0⟩:=trodAll_cons hA
 obtain⟨rfl,rfl,rfl⟩:=trodAll_nil r0
 obtain rfl:args= #[v0]:=by cases args;simp_all
 obtain⟨rfl,rfl⟩:=trodVars_none hV
 have k0:=h0
 have lt0:∀x∈p0,x.block<W.heap.size:=by obtain⟨m,hm⟩:=k0;exact DataW.trod_lt m _ _ _ hm
 obtain⟨a0,len0,cap0,rfl⟩:=okWide_slice Tryz.underlying22 (hval 0 22 v0 rfl rfl)
 obtain⟨x0,hx0⟩:∃l:List UInt8,I6 W (.slice a0 len0 cap0) l.length 1 (u8s l):=by
  obtain⟨fuel,hf⟩:=h0
  exact aQ4 Tryz.underlying22 hf
 clear hA0 hval0
 refine(cf8 _ x0 W hx0).mono fun e W' ⟨he,bel⟩=>?_
 subst he
 exact⟨_,rfl,_,_,_,[],_,[],hW',trodAll_mk1 (shut_bool Tryz.underlying4 _),(trodAll_cons_mk (Below.trod bP9 aj (of_decide_eq_true aj) k0 bel lt0) trodAll_mk0),rfl,bel.frame _,fun h=>by cases h⟩
theorem facts:joinedFacts Tryz.pinned.checked.prog 6 Tryz.f6 Rows.fnCheckTaintSpec Rows.fnCheckTaintRow=true:=by
 unfold joinedFacts
 rw[may_enter,lifts_final,make_is]
 kernel_rfl
theorem over:Rows.fnCheckTaintRow.holds Tryz.pinned (OpenSpec.ofChange Rows.fnCheckTaintSpec):=
 OpenClaim.holds_of_wide 6 Tryz.f6 rfl rfl rfl rfl rfl rfl rfl ⟨rfl,rfl,rfl,rfl,rfl⟩ rfl rfl rfl rfl rfl aj Tryz.func6 facts
  (of_decide_eq_true aj) (by unfold Func.isWrapper;first|(rw[if_pos (by decide+kernel)];kernel_rfl)|(rw[if_neg (by decide+kernel)];exact⟨rfl,rfl⟩))
  (fun os started H enc _=>lifted os started H enc)
theorem proved:Rows.FnCheckTaintSaid:=over
end Go.Proofs.YtfbeblgnjeokaaaGreat.exLCheckTaint
