/-
  LVerifyRelease: the statement, whatever the argument. Conditions: none beyond the statement's own.
-/
import Derived.Test.YtfbeblgnjeokaaaGreatK1
import Derived.Test.YtfbeblgnjeokaaaGreatK2
import Derived.Test.YtfbeblgnjeokaaaGreatK3
import Derived.Test.YtfbeblgnjeokaaaGreatK4
import Derived.Test.YtfbeblgnjeokaaaGreatK5
import Derived.Test.YtfbeblgnjeokaaaGreatK6
import Derived.Test.YtfbeblgnjeokaaaGreatK7
import Derived.Test.YtfbeblgnjeokaaaGreatEnter1M
import Derived.Test.YtfbeblgnjeokaaaGreatEnter2M
import Derived.Test.YtfbeblgnjeokaaaGreatEnter3M
set_option maxRecDepth 100000
set_option maxHeartbeats 16000000
set_option linter.unusedVariables false
set_option linter.unusedSimpArgs false
open Bool renaming not_eq_false' → cG1, not_eq_true' → cF7
open List renaming all_eq_true → cE2
open True renaming intro → cF1
namespace Go.Proofs.YtfbeblgnjeokaaaGreat.exLVerifyRelease
open Go Go.RowKit Go.Proofs.YtfbeblgnjeokaaaGreat
noncomputable section
theorem b42{c:d8}(h:(ac7 c).1=0):l5 c=true:=by
 cases hc:l5 c
 ·rw[ch4 hc]at h;cases h
 rfl
def VrP(N:Int)(v u:List (Int×Int)):Prop:=N<0\/(0<=N/\N<v.length/\N<u.length/\(v.getD N.toNat (0,0)).1=4/\(u.getD N.toNat (0,0)).1=4)
theorem bW6{N:Int}{v u:List (Int×Int)}(h:VrP N v u)(h0:¬N<0):N<v.length/\N<u.length/\(v.getD N.toNat (0,0)).1=4/\(u.getD N.toNat (0,0)).1=4:=by
 rcases h with h|h
 ·exact absurd h h0
 exact h.2
theorem b97{k:d8}{m m2 x y:z6}{v u:List (Int×Int)}{e g:Bool}(hf:L4 k.vars.length k.arrays.length m=true)(hf2:L4 k.vars.length k.arrays.length m2=true)(hP:Pub k.vars k.arrays m m2)(h:br4 k m x v e)(h2:br4 k m2 y u g)(h0:(ac7 k).1=0)(he:e=true)(hg:g=true):
  VrP (fdI v u) v u:=by
 have hc:=b42 h0
 obtain⟨p,hp,e1⟩:=ch5 hc
 have hv:Vf k:=(bI9 hp).1 (by rw[<-e1];exact h0)
 rcases h with⟨_,_,_,n,h3,rfl,rfl⟩|⟨h,_⟩
 ·rcases h2 with⟨_,_,_,j,h4,rfl,rfl⟩|⟨h2,_⟩
  ·exact cf7 (bW8 hc hv hf hf2 (cc4 hc hP) h3 h4)
  rw[h2]at hg;cases hg
 rw[h]at he;cases he
theorem cn7(c:List UInt8)(k:d8)(m m2 x y:z6)(v u:List (Int×Int))(e g:Bool)(K A N:Int)(hk:k.list.length<=400)
    (hd:j8.ok Tryz.prog (crC 7 c k m m2))
    (hi:j8.ok Tryz.prog (P1 8 [pA 0] (kcS k) (.tup [iA K,iA A]))) (hs:j8.ok Tryz.prog (P1 9 [pA 0] (kcS k) (.tup [iA K,iA A])))
    (hr1:j8.ok Tryz.prog (rcC k m x v e)) (hr2:j8.ok Tryz.prog (rcC k m2 y u g))
    (hf:j8.ok Tryz.prog (P1 11 [.ref 0,.ref 1] [.dat (.events v),.dat (.events u)] (iA N)))
    (hA:K=0->e=true->g=true->VrP N v u):j8.ok Tryz.prog ⟨3,[.ref 0],[dY c],[dY c],bA true⟩:=by
  have hdr:=hd;have hck:=hi;have hcs:=hs;have ha1:=hr1;have ha2:=hr2;have hfd:=hf;refine D9 99 Tryz.func3 [dY c] [(0,.ref 0)] fun G=>?_;refine wp_seq (l6 G f8 [(2,bA false)] fun G=>b6 (wp_seq (wp_seq (l6 G f8 [(19,bA (decide ((c.length:Int)>1048576)))] fun G=>b6 (rcD G (fun h0 q0=>?_) fun h0 q0=>?_)))))
  ·
   refine wp_skip (b6 (wp_seq (j7 G (x6 1 [0] hdr) [0,9,10,11,12,13,14,15,49,57,65] [dY c,dI k.vars,dI k.arrays,dN k.list,dI m.vals,dR m.arrs,dI m2.vals,dR m2.arrs,.box (pL 1),.box [.ref 4,.ref 5],.box [.ref 6,.ref 7]] [(2,bA false),(3,.ptr 8 0),(4,.ptr 9 0),(5,.ptr 10 0)] fun G=>b6 (wp_seq (l6 G (x6 1 [1,2,3] hck) [(6,iA K)] fun G=>b6 (wp_seq (l6 G (x6 1 [1,2,3] hcs) [(8,iA K)] fun G=>b6 (wp_seq (wp_seq (l6 G (H2 (fc (a:=K !=K) (b:=false) (by simp[h0]) fz) [(4,0),(5,0),(1006,0)]) [(42,bA (K !=0))] fun G=>b6 (rcN G (fun h1 q1=>?_) fun h1 q1=>?_)))))))))))
   ·
    refine wp_skip (b6 (wp_seq (j7 G (x6 2 [1,2,3,4,5] ha1) [0,1,2,3,6,7,8,10,29] [dY c,dI k.vars,dI k.arrays,dN k.list,dI m2.vals,dR m2.arrs,.box (pL 1),.box [.ref 4,.ref 5],.row 39 (D.events v)] [(2,bA false),(3,.ptr 6 0),(5,.ptr 7 0),(11,.ref 8),(12,bA e)] fun G=>b6 (wp_seq (j7 G (x6 2 [1,2,3,4,5] ha2) [0,8,27] [dY c,.row 39 (D.events v),.row 39 (D.events u)] [(2,bA false),(11,.ref 1),(12,bA e),(14,.ref 2),(15,bA g)] fun G=>b6 (wp_seq (l6 G (x6 2 [1,2] (j8.lend hfd [.row 39,.row 39])) [(16,iA N)] fun G=>b6 (wp_seq (wp_seq ?_)))))))));cases h2:(!e)
    ·
     have q2:(e)=true:=(Eq.mp (cG1 _) h2);cases h3:(!g)
     ·
      have q3:(g)=true:=(Eq.mp (cG1 _) h3);refine C6 G (H2 (fc h2 (fc h3 fz)) [(3,0),(4,0),(1005,0),(7,1),(8,1),(1009,1)]) [(2,bA false),(11,.ref 1),(14,.ref 2),(16,iA N),(72,bA (decide (N<0)))] fun G=>b6 (rcD G (fun h4 q4=>?_) fun h4 q4=>?_)
      ·
       refine wp_skip (b6 (wp_seq ?_));cases h5:(decide (N<(v.length:Int)))
       · have q5:=dFf h5;exact False.elim (by exact absurd (bW6 (hA al ab ab) al).1 ab)
       have q5:=dTt h5;cases h6:(decide (N<(u.length:Int)))
       · have q6:=dFf h6;exact False.elim (by exact absurd (bW6 (hA al ab ab) al).2.1 ab)
       have q6:=dTt h6;cases h7:((v.getD N.toNat ((0:Int),(0:Int))).fst==4)
       · have q7:=ne_of_beq_false h7;exact False.elim (by exact absurd (bW6 (hA al ab ab) al).2.2.1 ab)
       have q7:=eq_of_beq h7;refine R9 G (H2 (fc h5 (fc h6 (fc h7 fz))) (us [(5,8,0),(1009,1009,0),(11,16,1),(1017,1017,1),(19,24,2),(1025,1025,2)])) [0] [dY c] [(2,bA ((u.getD N.toNat (0,0)).fst==4))] (iX N N.toNat v.length (iX N N.toNat u.length [])) (iK al (iK al cF1)) fun G=>b6 (wp_ret ?_);exact I8 ((u.getD N.toNat (0,0)).fst==4) G [0] (by rw[(bW6 (hA al ab ab) al).2.2.2];rfl)
      refine wp_seq (l6 G f8 [(2,bA true)] fun G=>b6 (wp_ret (l7 ?_)));exact G7 G [0]
     have q3:(g)=false:=(Eq.mp (cF7 _) h3);refine l6 G (H2 (fc h2 (fc h3 fz)) [(3,0),(4,0),(1005,0),(7,1),(8,1),(1009,1)]) [(72,bA true)] fun G=>b6 (rT G true aj (wp_seq (l6 G f8 [(2,bA true)] fun G=>b6 (wp_ret (l7 ?_)))));exact G7 G [0]
    have q2:(e)=false:=(Eq.mp (cF7 _) h2);refine l6 G (H2 (fc h2 (fc (b:=true) rfl fz)) [(3,0),(4,0),(1005,0),(7,1),(8,1),(1009,1)]) [(72,bA true)] fun G=>b6 (rT G true aj (wp_seq (l6 G f8 [(2,bA true)] fun G=>b6 (wp_ret (l7 ?_)))));exact G7 G [0]
   refine wp_seq (l6 G f8 [(2,bA (K==K))] fun G=>b6 (wp_ret (l7 ?_)));exact I8 (K==K) G [0] (by simp[h0,h1])
  refine wp_seq (l6 G f8 [(2,bA true)] fun G=>b6 (wp_ret (l7 ?_)));exact G7 G [0]
theorem cv0(c:List UInt8):j8.ok Tryz.prog ⟨3,[.ref 0],[dY c],[dY c],bA true⟩:=by
 obtain⟨k,m,m2,h1,h2,h3,hP,h4⟩:=bT0 c
 obtain⟨f1,f2,f3,f4⟩:=ae9 h2
 obtain⟨g1,g2,g3,g4⟩:=ae9 h3
 obtain⟨x,v,e,h5,h6⟩:=aY1 k m al al fun r hr=>by
  have:=(br0 (cE2.1 f4 r hr)).1
  omega
 obtain⟨y,u,g,h7,h8⟩:=aY1 k m2 al al fun r hr=>by
  have:=(br0 (cE2.1 g4 r hr)).1
  omega
 exact cn7 c k m m2 x y v u e g (ac7 k).1 (ac7 k).2 (fdI v u) h1.2.2 h4 (a58 _ _ _) (bh7 _ _ _) h6 h8 (bh5 v u) fun h0 he hg=>b97 h2 h3 hP h5 h7 h0 he hg
theorem cx4(u:Value)(c:List UInt8)(w:World)(hp:J0 w u c.length 1 (u8s c)):Calls Tryz.prog 3 #[u] w fun e w'=>e=.returned (.bool true)/\Below w.heap.size w w':=
 bG3 (cv0 c) u w (hp.rowF fun _ _=>trivial)
end
end Go.Proofs.YtfbeblgnjeokaaaGreat.exLVerifyRelease

namespace Go.Proofs.YtfbeblgnjeokaaaGreat.exLVerifyRelease
open Go Go.RowKit Go.ChangeShapes Go.WideShapes Go.ChangeAt Go.Proofs.YtfbeblgnjeokaaaGreat
theorem lifted(os:Os)(started:os.Started)(H:Type)(enc:TypeId×Value->H):
  ReturnsInHanded {} Tryz.checked os 3 .any (Rows.fnVerifyReleaseSpec.pre6 enc Tryz.prog Tryz.f3 Rows.fnVerifyReleaseRow.domain false) (Rows.fnVerifyReleaseSpec.post enc Tryz.prog Tryz.f3 false true false false):=by
 refine returnsInHanded_of_change (C:=Tryz.checked) own started aj Tryz.func3
  (ChangeSpec.witness6 (enc:=enc) (C:=Tryz.checked) false ⟨#[], #[.slice none 0 0],[]⟩ 8 aj aj aj aj) ?_
 intro W base args ds gs before hval0 hW hcnd _
 have hval:∀(j:Nat) t v,Tryz.f3.params[j]? =some t->args[j]? =some v->Value.okWide Tryz.prog W .any base t v:=hval0
 have hW':=hW
 obtain⟨p,q,hA0,hV,rfl,hfz,hnd⟩:=hW
 have hA:DataW.TrodAll enc Tryz.prog W 0 (fun _=>true) true Tryz.f3.params.toList args.toList ds p:=hA0
 rw[Tryz.params3]at hA hval
 obtain⟨v0,vs0,d0,ds0,p0,q0,hargs,rfl,rfl,h0,r0⟩:=trodAll_cons hA
 obtain⟨rfl,rfl,rfl⟩:=trodAll_nil r0
 obtain rfl:args= #[v0]:=by cases args;simp_all
 obtain⟨rfl,rfl⟩:=trodVars_none hV
 have k0:=h0
 have lt0:∀x∈p0,x.block<W.heap.size:=by obtain⟨m,hm⟩:=k0;exact DataW.trod_lt m _ _ _ hm
 obtain⟨a0,len0,cap0,rfl⟩:=okWide_slice Tryz.underlying22 (hval 0 22 v0 rfl rfl)
 obtain⟨x0,hx0⟩:∃l:List UInt8,J0 W (.slice a0 len0 cap0) l.length 1 (u8s l):=by
  obtain⟨fuel,hf⟩:=h0
  exact aT1 Tryz.underlying22 hf
 clear hA0 hval0
 refine(cx4 _ x0 W hx0).mono fun e W' ⟨he,bel⟩=>?_
 subst he
 exact⟨_,rfl,_,_,_,[],_,[],hW',trodAll_mk1 (shut_bool Tryz.underlying4 _),(trodAll_cons_mk (Below.trod b20 aj (of_decide_eq_true aj) k0 bel lt0) trodAll_mk0),rfl,bel.frame _,fun h=>by cases h⟩
theorem facts:joinedFacts Tryz.pinned.checked.prog 3 Tryz.f3 Rows.fnVerifyReleaseSpec Rows.fnVerifyReleaseRow=true:=by
 unfold joinedFacts
 rw[may_enter,lifts_final,make_is]
 kernel_rfl
theorem over:Rows.fnVerifyReleaseRow.holds Tryz.pinned (OpenSpec.ofChange Rows.fnVerifyReleaseSpec):=
 OpenClaim.holds_of_wide 3 Tryz.f3 rfl rfl rfl rfl rfl rfl rfl ⟨rfl,rfl,rfl,rfl,rfl⟩ rfl rfl rfl rfl rfl aj Tryz.func3 facts
  (of_decide_eq_true aj) (by unfold Func.isWrapper;first|(rw[if_pos (by decide+kernel)];kernel_rfl)|(rw[if_neg (by decide+kernel)];exact⟨rfl,rfl⟩))
  (fun os started H enc _=>lifted os started H enc)
theorem proved:Rows.FnVerifyReleaseSaid:=over
end Go.Proofs.YtfbeblgnjeokaaaGreat.exLVerifyRelease
