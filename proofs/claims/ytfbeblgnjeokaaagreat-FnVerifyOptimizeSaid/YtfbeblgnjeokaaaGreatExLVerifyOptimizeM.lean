/-
  LVerifyOptimize: the statement, whatever the argument. Conditions: none beyond the statement's own.
-/
import Derived.Test.YtfbeblgnjeokaaaGreatK1
import Derived.Test.YtfbeblgnjeokaaaGreatK2
import Derived.Test.YtfbeblgnjeokaaaGreatK3
import Derived.Test.YtfbeblgnjeokaaaGreatK4
import Derived.Test.YtfbeblgnjeokaaaGreatK5
import Derived.Test.YtfbeblgnjeokaaaGreatK6
import Derived.Test.YtfbeblgnjeokaaaGreatK7
import Derived.Test.YtfbeblgnjeokaaaGreatK8
import Derived.Test.YtfbeblgnjeokaaaGreatEnter1M
import Derived.Test.YtfbeblgnjeokaaaGreatEnter2M
import Derived.Test.YtfbeblgnjeokaaaGreatEnter3M
set_option maxRecDepth 100000
set_option maxHeartbeats 16000000
set_option linter.unusedVariables false
set_option linter.unusedSimpArgs false
namespace Go.Proofs.YtfbeblgnjeokaaaGreat.exLVerifyOptimize
open Go Go.RowKit Go.Proofs.YtfbeblgnjeokaaaGreat
noncomputable section
theorem bfl{b:Bool}(h:b=true)(h':b=false):False:=by rw[h]at h';cases h'
theorem cv0:¬((!true)=true):=ak
theorem cn3{c:c8}(h:(N9 c).1=0):j7 c=true/\(N9 (S9 c)).1=0:=by
 have hc:j7 c=true:=by
  cases hc:j7 c
  ·rw[cd1 hc]at h;cases h
  rfl
 obtain⟨m,hm,e⟩:=bT1 hc
 rw[e]at h
 have hv:=(a97 hm).1 h
 have e2:S9 c=ax5 c:=by unfold S9;rw[if_pos hc]
 have ho:=(ag5 hc).2
 obtain⟨m',hm',e'⟩:=bT1 ho
 rw[e2,e']
 exact⟨hc,(a97 hm').2 (bM5 hc hv)⟩
theorem cf8(c:c8):j8.ok Tryz.prog ⟨15,[.agg [.ref 0,.ref 1,.ref 2]],[.dat (.ints c.vars),.dat (.ints c.arrays),.dat (.instrs c.list)],[.dat (.ints c.vars),.dat (.ints c.arrays),.dat (.instrs c.list),.row 3 (.ints (S9 c).vars),.row 3 (.ints (S9 c).arrays),.row 76 (.instrs (S9 c).list)],.tup [.agg [.ref 3,.ref 4,.ref 5],bA (j7 c)]⟩:=b11 fun v w h=>ay5 v c w h
abbrev p6(c:List UInt8):=N9 (c8.mk (y7 c).vars (y7 c).arrays (y7 c).list)
theorem co1(c:List UInt8):j8.ok Tryz.prog ⟨5,[.ref 0],[dY c],[dY c],bA true⟩:=by
  have hto:=cf8 (y7 c);refine H9 56 Tryz.func5 [dY c] [(0,.ref 0)] fun G=>?_;have hsz:=cc2 c;have hz:(N9 ⟨(y7 c).vars,(y7 c).arrays,(y7 c).list⟩).1=0->j7 (y7 c)=true/\(N9 ⟨(S9 (y7 c)).vars,(S9 (y7 c)).arrays,(S9 (y7 c)).list⟩).1=0:=cn3;refine wp_seq (l8 G f8 [(2,bA false)] fun G=>b6 (wp_seq (wp_seq (l8 G f8 [(14,bA (decide ((c.length:Int)>1048576)))] fun G=>b6 (rcD G (fun h0 q0=>?_) fun h0 q0=>?_)))))
  ·
   refine wp_skip (b6 (wp_seq (j9 G (w6 1 [0] (bU2 c)) [0,9,10,11,17] [dY c,.row 3 (D.ints (y7 c).vars),.row 3 (D.ints (y7 c).arrays),.row 76 (D.instrs (y7 c).list),.box (pL 1)] [(2,bA false),(3,.ptr 4 0)] fun G=>b6 (wp_seq (l8 G (w6 1 [1,2,3] (j8.lend (az2 ((y7 c).vars) ((y7 c).arrays) ((y7 c).list)) [.row 3,.row 3,.row 76])) [(4,iA (p6 c).fst),(5,iA (p6 c).snd)] fun G=>b6 (wp_seq (l8 G (w6 1 [1,2,3] (j8.lend (bi3 ((y7 c).vars) ((y7 c).arrays) ((y7 c).list)) [.row 3,.row 3,.row 76])) [(6,iA (p6 c).fst),(7,iA (p6 c).snd)] fun G=>b6 (wp_seq (j9 G (w6 1 [1,2,3] (j8.lend hto [.row 3,.row 3,.row 76])) [0,13,14,15,45] [dY c,.row 3 (D.ints (S9 (y7 c)).vars),.row 3 (D.ints (S9 (y7 c)).arrays),.row 76 (D.instrs (S9 (y7 c)).list),.box (pL 1)] [(2,bA false),(4,iA (p6 c).fst),(5,iA (p6 c).snd),(6,iA (p6 c).fst),(7,iA (p6 c).snd),(8,.ptr 4 0),(9,bA (j7 (y7 c)))] fun G=>b6 (wp_seq (j9 G (w6 1 [1,2,3] (j8.lend (az2 ((S9 (y7 c)).vars) ((S9 (y7 c)).arrays) ((S9 (y7 c)).list)) [.row 3,.row 3,.row 76])) [0] [dY c] [(2,bA false),(4,iA (p6 c).fst),(5,iA (p6 c).snd),(6,iA (p6 c).fst),(7,iA (p6 c).snd),(9,bA (j7 (y7 c))),(10,iA (N9 (c8.mk (S9 (y7 c)).vars (S9 (y7 c)).arrays (S9 (y7 c)).list)).fst)] fun G=>b6 (wp_seq ?_))))))))))));cases h1:((N9 (c8.mk (y7 c).vars (y7 c).arrays (y7 c).list)).fst !=0)
   ·
    have q1:=bne_eq_false_iff_eq.1 h1;cases h2:(j7 (y7 c))
    · exact False.elim (bfl (hz al).1 ab)
    refine l8 G (K6 (fc (a:=(N9 (c8.mk (y7 c).vars (y7 c).arrays (y7 c).list)).fst==(N9 (c8.mk (y7 c).vars (y7 c).arrays (y7 c).list)).fst) (b:=true) (by simp[h0,h1,h2]) (fc (a:=(N9 (c8.mk (y7 c).vars (y7 c).arrays (y7 c).list)).snd==(N9 (c8.mk (y7 c).vars (y7 c).arrays (y7 c).list)).snd) (b:=true) (by simp[h0,h1,h2]) (fc h1 (fc h2 fz)))) [(4,0),(5,0),(6,0),(1007,0),(9,1),(10,1),(11,1),(12,2),(13,2),(14,3),(15,3),(16,2),(1016,3),(17,1),(1017,2),(1018,1)]) [(2,bA ((N9 (c8.mk (S9 (y7 c)).vars (S9 (y7 c)).arrays (S9 (y7 c)).list)).fst==0))] fun G=>b6 (wp_ret ?_);exact M5 ((N9 (c8.mk (S9 (y7 c)).vars (S9 (y7 c)).arrays (S9 (y7 c)).list)).fst==0) G [0] (by have h9:=(hz al).2;rw[h9];rfl)
   have q1:=bne_iff_ne.1 h1;refine l8 G (K6 (fc (a:=(N9 (c8.mk (y7 c).vars (y7 c).arrays (y7 c).list)).fst==(N9 (c8.mk (y7 c).vars (y7 c).arrays (y7 c).list)).fst) (b:=true) (by simp[h0,h1]) (fc (a:=(N9 (c8.mk (y7 c).vars (y7 c).arrays (y7 c).list)).snd==(N9 (c8.mk (y7 c).vars (y7 c).arrays (y7 c).list)).snd) (b:=true) (by simp[h0,h1]) (fc h1 fz))) [(4,0),(5,0),(6,0),(1007,0),(9,1),(10,1),(11,1),(12,2),(13,2),(16,2),(17,1),(1017,2),(1018,1)]) [(2,bA true)] fun G=>b6 (wp_ret ?_);exact O8 G [0]
  refine wp_seq (l8 G f8 [(2,bA true)] fun G=>b6 (wp_ret (l7 ?_)));exact O8 G [0]
theorem cp0(u:Value)(c:List UInt8)(w:World)(hp:H7 w u c.length 1 (u8s c)):Calls Tryz.prog 5 #[u] w fun e w'=>e=.returned (.bool true)/\Below w.heap.size w w':=
 bG1 (co1 c) u w (hp.rowF fun _ _=>trivial)
end
end Go.Proofs.YtfbeblgnjeokaaaGreat.exLVerifyOptimize

namespace Go.Proofs.YtfbeblgnjeokaaaGreat.exLVerifyOptimize
open Go Go.RowKit Go.ChangeShapes Go.WideShapes Go.ChangeAt Go.Proofs.YtfbeblgnjeokaaaGreat
theorem lifted(os:Os)(started:os.Started)(H:Type)(enc:TypeId×Value->H):
  ReturnsInHanded {} Tryz.checked os 5 .any (Rows.fnVerifyOptimizeSpec.pre6 enc Tryz.prog Tryz.f5 Rows.fnVerifyOptimizeRow.domain false) (Rows.fnVerifyOptimizeSpec.post enc Tryz.prog Tryz.f5 false true false false):=by
 refine returnsInHanded_of_change (C:=Tryz.checked) own started aj Tryz.func5
  (ChangeSpec.witness6 (enc:=enc) (C:=Tryz.checked) false ⟨#[], #[.slice none 0 0],[]⟩ 8 aj aj aj aj) ?_
 intro W base args ds gs before hval0 hW hcnd _
 have hval:∀(j:Nat) t v,Tryz.f5.params[j]? =some t->args[j]? =some v->Value.okWide Tryz.prog W .any base t v:=hval0
 have hW':=hW
 obtain⟨p,q,hA0,hV,rfl,hfz,hnd⟩:=hW
 have hA:DataW.TrodAll enc Tryz.prog W 0 (fun _=>true) true Tryz.f5.params.toList args.toList ds p:=hA0
 rw[Tryz.params5]at hA hval
 obtain⟨v0,vs0,d0,ds0,p0,q0,hargs,rfl,rfl,h0,r0⟩:=trodAll_cons hA
 obtain⟨rfl,rfl,rfl⟩:=trodAll_nil r0
 obtain rfl:args= #[v0]:=by cases args;simp_all
 obtain⟨rfl,rfl⟩:=trodVars_none hV
 have k0:=h0
 have lt0:∀x∈p0,x.block<W.heap.size:=by obtain⟨m,hm⟩:=k0;exact DataW.trod_lt m _ _ _ hm
 obtain⟨a0,len0,cap0,rfl⟩:=okWide_slice Tryz.underlying22 (hval 0 22 v0 rfl rfl)
 obtain⟨x0,hx0⟩:∃l:List UInt8,H7 W (.slice a0 len0 cap0) l.length 1 (u8s l):=by
  obtain⟨fuel,hf⟩:=h0
  exact aV5 Tryz.underlying22 hf
 clear hA0 hval0
 refine(cp0 _ x0 W hx0).mono fun e W' ⟨he,bel⟩=>?_
 subst he
 exact⟨_,rfl,_,_,_,[],_,[],hW',trodAll_mk1 (shut_bool Tryz.underlying4 _),(trodAll_cons_mk (Below.trod bZ5 aj (of_decide_eq_true aj) k0 bel lt0) trodAll_mk0),rfl,bel.frame _,fun h=>by cases h⟩
theorem facts:joinedFacts Tryz.pinned.checked.prog 5 Tryz.f5 Rows.fnVerifyOptimizeSpec Rows.fnVerifyOptimizeRow=true:=by
 unfold joinedFacts
 rw[may_enter,lifts_final,make_is]
 kernel_rfl
theorem over:Rows.fnVerifyOptimizeRow.holds Tryz.pinned (OpenSpec.ofChange Rows.fnVerifyOptimizeSpec):=
 OpenClaim.holds_of_wide 5 Tryz.f5 rfl rfl rfl rfl rfl rfl rfl ⟨rfl,rfl,rfl,rfl,rfl⟩ rfl rfl rfl rfl rfl aj Tryz.func5 facts
  (of_decide_eq_true aj) (by unfold Func.isWrapper;first|(rw[if_pos (by decide+kernel)];kernel_rfl)|(rw[if_neg (by decide+kernel)];exact⟨rfl,rfl⟩))
  (fun os started H enc _=>lifted os started H enc)
theorem proved:Rows.FnVerifyOptimizeSaid:=over
end Go.Proofs.YtfbeblgnjeokaaaGreat.exLVerifyOptimize
