/- Part 6: functions on the way, plain laws. Conditions: as said. -/
import Derived.Test.YtfbeblgnjeokaaaGreatK1
import Derived.Test.YtfbeblgnjeokaaaGreatK2
import Derived.Test.YtfbeblgnjeokaaaGreatK4
import Derived.Test.YtfbeblgnjeokaaaGreatK5
set_option maxRecDepth 100000
set_option maxHeartbeats 16000000
set_option linter.unusedVariables false
set_option linter.unusedSimpArgs false
open Bool renaming and_eq_true → cD5, not_eq_false' → cG1, not_eq_true' → cF7, or_eq_true → cI1
open Inhabited renaming default → cD4
open List renaming all_eq_true → cE2, append_assoc → cI0, eq_nil_of_length_eq_zero → cF4, getD_eq_getElem?_getD → cD7, getElem?_append_left → cF2, getElem?_append_right → cH0, getElem?_cons_succ → cE8, getElem?_cons_zero → cD9, getElem?_eq_getElem → cD8, getElem?_eq_none → cF6, getElem?_eq_some_iff → cE7, getElem?_set → cH9, getElem_mem → cF3, length_append → cE0, length_cons → cE5, length_nil → cE9, length_replicate → cF8, length_set → cG4, mem_cons → cH6, mem_cons_of_mem → cH5, mem_cons_self → cH7, mem_singleton → cG7, replicate → cD6, take → cE3, take_of_length_le → cF0
open Nat renaming le_refl → cE1, le_trans → cG3, lt_or_ge → cF9, zero_add → cI3, zero_le → cG8
open True renaming intro → cF1

namespace Go.Proofs.YtfbeblgnjeokaaaGreat
open Go Go.RowKit
def cdF(F:c6->Int):List c6->Int
 |[]=>0
 |s::r=>if F s=0 then cdF F r else F s
def cdS(vs ars:List Int)(strict:Bool):Nat->Int->c6->Int
 |0,_,_=>0
 | d + 1, pc, s => if ac6 ⟨vs, ars, []⟩ s pc strict = 0 then
   (if cdF (cdS vs ars strict d (am3 ⟨vs,ars,[]⟩ s pc)) s.body=0 then cdF (cdS vs ars strict d (am3 ⟨vs,ars,[]⟩ s pc)) s.els else cdF (cdS vs ars strict d (am3 ⟨vs,ars,[]⟩ s pc)) s.body)
  else ac6 ⟨vs,ars,[]⟩ s pc strict
theorem bp1{F:c6->Int}{G:Nat->c6->Int×Nat}(h:∀c s,(G c s).1=F s):∀(ss:List c6) (c:Nat),(H1 G c ss).1=cdF F ss
 |[],_=>rfl
 |s::r,c=>by
  rw[H1,cdF,h]
  split
  ·exact bp1 h r _
  exact h c s
theorem bU3(p:i6)(strict:Bool):∀(d:Nat) (pc:Int) (c:Nat) (s:c6),(stC p strict d pc c s).1=cdS p.vars p.arrays strict d pc s
 |0,_,_,_=>rfl
 | d + 1, pc, c, s => by
  have e1:ac6 p s pc strict=ac6 ⟨p.vars,p.arrays,[]⟩ s pc strict:=rfl
  have e2:am3 p s pc=am3 ⟨p.vars,p.arrays,[]⟩ s pc:=rfl
  have h1:=fun ss c=>bp1 (bU3 p strict d (am3 p s pc)) ss c
  rw[stC,cdS, <-e1, <-e2]
  split
  ·rw[h1]
   split
   ·rw[h1]
   rw[h1]
  rfl
theorem ch6(p:i6)(strict:Bool)(d:Nat)(pc:Int)(c:Nat)(ss:List c6):(z4 p strict d pc c ss).1=cdF (cdS p.vars p.arrays strict d pc) ss:=bp1 (bU3 p strict d pc) ss c
theorem bg5{F:c6->Int}:∀{ss:List c6},cdF F ss=0↔∀s∈ss,F s=0
 |[]=>by simp[cdF]
 | s :: r => by
  rw[cdF]
  by_cases h:F s=0
  ·rw[if_pos h,bg5]
   simp[h]
  rw[if_neg h]
  simp[h]
theorem b41(p:i6)(strict:Bool):(X9 p strict).1=if n9 p=true then cdF (cdS p.vars p.arrays strict 5 0) p.body else 5:=by
 unfold X9
 rw[<-ch6 p strict 5 0 0]
 split
 ·split
  ·rename_i h;exact h.symm
  rfl
 rfl
theorem b39(p:i6)(strict:Bool):(X9 p strict).1=0↔n9 p=true/\∀s∈p.body,cdS p.vars p.arrays strict 5 0 s=0:=by
 rw[b41]
 split
 ·rename_i h;rw[bg5];exact⟨fun h1=>⟨h,h1⟩,fun h1=>h1.2⟩
 rename_i h;exact⟨fun h1=>absurd h1 ak,fun h1=>absurd h1.1 h⟩
section
variable{vs ars:List Int}{l:Int}{s:c6}{pc pd:Int}
end
theorem aA7{p:i6}(h:n9 p=true):p.vars.all i9=true/\p.arrays.all i9=true/\1<=p.vars.length/\p.body.all (j9 p.vars.length p.arrays.length 5)=true:=by
 unfold n9 F9 at h
 simp only[cD5,decide_eq_true_eq]at h
 exact⟨h.1.1.1.1.1.1,h.1.1.1.1.1.2,h.1.1.1.1.2,h.1.2⟩
section
variable(vs ars:List Int)(bd:List c6)
end
abbrev nvB(n:Int):Bool:= !(decide (0<=n)&&decide (n<=255))
theorem b47(n:Int):j8.ok Tryz.prog (P1 165 [iA n] [] (bA (nvB n))):=by
 refine D9 6 Tryz.func165 [] [(0,iA n)] fun G=>?_;refine wp_seq (l6 G f8 [(2,bA false)] fun G=>b6 (wp_seq (l6 G (x6 1 [] (bU7 n 0 255)) [(2,.v (.bool !(decide (0<=n)&&decide (n<=255))))] fun G=>b6 (wp_ret ?_))));exact G7 G []
theorem cv1(l:List Int):j8.ok Tryz.prog (P1 186 [.ref 0,.fn 165 []] [dI l] (iA (ai9 nvB l))):=by
  refine D9 19 Tryz.func186 [dI l] [(0,.ref 0),(1,.fn 165 [])] fun G=>?_;have hl:l.length<=9223372036854775807:=G.len 0 (d:=.ints l) aj;refine wp_seq (C6 G f8 [(0,.ref 0),(1,.fn 165 []),(4,iA 0)] fun G=>b6 (wp_seq (wp_seq (C6 G f8 [(0,.ref 0),(1,.fn 165 []),(4,iA 0),(7,iA (l.length:Int)),(8,iA 0)] fun G=>b6 (wp_block ?_)))));refine t9 (κ:=Nat) (fun k=>k<=l.length/\(l.take k).any nvB=false) (fun k=>l.length-k) (fun k=>[dI l]) (fun k=>[(0,.ref 0),(1,.fn 165 []),(4,iA 0),(7,iA (l.length:Int)),(8,iA k)]) 0 (⟨cG8 _,rfl⟩) (x7.at G _ _) ?_;clear G;intro k ρ a w hp G;refine wp_seq (l6 G f8 [(9,bA (decide ((k:Int)<l.length)))] fun G=>b6 (wp_seq (rcD G (fun h0 q0=>?_) fun h0 q0=>?_)))
  · refine wp_exit (t4 (t4 (t3 (b6 (wp_seq (l6 G f8 [(4,iA (-1))] fun G=>b6 (wp_ret ?_)))))));exact rxI (-1) G [0] (aQ0 (ay7 hp.2 al))
  refine wp_skip (b6 (wp_seq (wp_block (wp_seq (l6 G f8 [(5,iA k)] fun G=>b6 (wp_seq (H0 G (x6 5 [] (b47 (l.getD k 0))) [(16,bA (nvB (l.getD k 0)))] (iX k k l.length []) (iK al cF1) fun G=>b6 (rcB G (fun h1=>?_) fun h1=>?_))))))))
  · refine wp_skip (m8 (b6 (H0 G f8 [(8,iA ((k:Int)+1))] [wO ((k:Int)+1)] (o1 al) fun G=>b6 ?_)));exact P7 G (k+1) (⟨al,ay6 (z:=0) hp.2 al ai⟩) al [0]
  refine wp_seq (l6 G f8 [(4,iA k)] fun G=>b6 (wp_ret (A5 (l7 (l7 (A5 (l7 ?_)))))));exact rxI ((k:Int)) G [0] (aX4 (z:=0) al hp.2 ai)
theorem cv4(l:List Int):j8.ok Tryz.prog (P1 164 [.ref 0,.fn 165 []] [dI l] (bA (l.any nvB))):=by
 refine D9 9 Tryz.func164 [dI l] [(0,.ref 0),(1,.fn 165 [])] fun G=>?_;refine wp_seq (l6 G f8 [(4,bA false)] fun G=>b6 (wp_seq (l6 G (x6 2 [0] (cv1 l)) [(4,bA (decide (ai9 nvB l>=0)))] fun G=>b6 (wp_ret ?_))));exact I8 (decide (ai9 nvB l>=0)) G [0] ((aX5 _ _).symm)
theorem bJ1(l:List Int):(!l.any nvB)=J3 l:=by
 unfold J3
 rw[List.all_eq_not_any_not]
theorem aE6(l:List Int):j8.ok Tryz.prog (P1 105 [.ref 0] [dI l] (bA (J3 l))):=by
 refine D9 6 Tryz.func105 [dI l] [(0,.ref 0)] fun G=>?_;refine wp_seq (l6 G f8 [(2,bA false)] fun G=>b6 (wp_seq (l6 G (x6 1 [0] (cv4 l)) [(2,.v (.bool !l.any nvB))] fun G=>b6 (wp_ret ?_))));exact T9 (.v (.bool !l.any nvB)) G [0] (by have e1:(J3 l:Bool)=(!l.any nvB):=((bJ1 l).symm);(first|rw[e1]|simp only[e1])<;>rfl)
abbrev naB(a:List Int):Bool:= !(X7 a)
theorem cB7{a:List Int}(h:¬(a.length:Int)=4):naB a=true:=by unfold naB X7;rw[decide_eq_false (p:=a.length=4) al];rfl
theorem cB6{a:List Int}(h:(a.length:Int)=4):naB a= !(J3 a):=by unfold naB X7;rw[decide_eq_true (p:=a.length=4) al];rfl
theorem ci0(l:List Int):j8.ok Tryz.prog (P1 107 [.ref 0] [dI l] (bA (naB l))):=by
 refine D9 11 Tryz.func107 [dI l] [(0,.ref 0)] fun G=>?_;refine wp_seq (l6 G f8 [(2,bA false)] fun G=>b6 (wp_seq ?_));cases h0:((l.length:Int) !=4)
 ·have q0:=bne_eq_false_iff_eq.1 h0;refine l6 G (I7 (y7 5 [0] (aE6 l) I6) (fc h0 fz) [(4,0),(5,0),(6,0),(1007,0)]) [(2,.v (.bool !J3 l))] fun G=>b6 (wp_ret ?_);exact T9 (.v (.bool !J3 l)) G [0] (by have e1:(naB l:Bool)=(!J3 l):=(cB6 al);(first|rw[e1]|simp only[e1])<;>rfl)
 have q0:=bne_iff_ne.1 h0;refine l6 G (H2 (fc h0 fz) [(4,0),(5,0),(6,0),(1007,0)]) [(2,bA true)] fun G=>b6 (wp_ret ?_);exact I8 true G [0] (cB7 al)
theorem cv2(l:List (List Int)):j8.ok Tryz.prog (P1 166 [.ref 0,.fn 107 []] [dR l] (iA (ai9 naB l))):=by
  refine D9 19 Tryz.func166 [dR l] [(0,.ref 0),(1,.fn 107 [])] fun G=>?_;have hl:l.length<=9223372036854775807:=G.len 0 (d:=.rows l) aj;refine wp_seq (C6 G f8 [(0,.ref 0),(1,.fn 107 []),(4,iA 0)] fun G=>b6 (wp_seq (wp_seq (C6 G f8 [(0,.ref 0),(1,.fn 107 []),(4,iA 0),(7,iA (l.length:Int)),(8,iA 0)] fun G=>b6 (wp_block ?_)))));refine t9 (κ:=Nat) (fun k=>k<=l.length/\(l.take k).any naB=false) (fun k=>l.length-k) (fun k=>[dR l]) (fun k=>[(0,.ref 0),(1,.fn 107 []),(4,iA 0),(7,iA (l.length:Int)),(8,iA k)]) 0 (⟨cG8 _,rfl⟩) (x7.at G _ _) ?_;clear G;intro k ρ a w hp G;refine wp_seq (l6 G f8 [(9,bA (decide ((k:Int)<l.length)))] fun G=>b6 (wp_seq (rcD G (fun h0 q0=>?_) fun h0 q0=>?_)))
  · refine wp_exit (t4 (t4 (t3 (b6 (wp_seq (l6 G f8 [(4,iA (-1))] fun G=>b6 (wp_ret ?_)))))));exact rxI (-1) G [0] (aQ0 (ay7 hp.2 al))
  refine wp_skip (b6 (wp_seq (wp_block (wp_seq (l6 G f8 [(5,iA k)] fun G=>b6 (wp_seq (H0 G (x6 5 [33] (ci0 (l.getD k []))) [(16,bA (naB (l.getD k [])))] (iX k k l.length []) (iK al cF1) fun G=>b6 (rcB G (fun h1=>?_) fun h1=>?_))))))))
  · refine wp_skip (m8 (b6 (H0 G f8 [(8,iA ((k:Int)+1))] [wO ((k:Int)+1)] (o1 al) fun G=>b6 ?_)));exact P7 G (k+1) (⟨al,ay6 (z:=[]) hp.2 al ai⟩) al [0]
  refine wp_seq (l6 G f8 [(4,iA k)] fun G=>b6 (wp_ret (A5 (l7 (l7 (A5 (l7 ?_)))))));exact rxI ((k:Int)) G [0] (aX4 (z:=[]) al hp.2 ai)
theorem cv5(l:List (List Int)):j8.ok Tryz.prog (P1 106 [.ref 0,.fn 107 []] [dR l] (bA (l.any naB))):=by
 refine D9 9 Tryz.func106 [dR l] [(0,.ref 0),(1,.fn 107 [])] fun G=>?_;refine wp_seq (l6 G f8 [(4,bA false)] fun G=>b6 (wp_seq (l6 G (x6 2 [0] (cv2 l)) [(4,bA (decide (ai9 naB l>=0)))] fun G=>b6 (wp_ret ?_))));exact I8 (decide (ai9 naB l>=0)) G [0] ((aX5 _ _).symm)
theorem b52(l:List (List Int)):(!l.any naB)=l.all X7:=by
 rw[List.all_eq_not_any_not]
theorem cs8{nv na:Nat}{m:z6}(h1:(m.vals.length:Int)=nv)(h2:(m.arrs.length:Int)=na)(h3:J3 m.vals=true):(!m.arrs.any naB)=L4 nv na m:=by
 rw[cs9 h1 h2 h3];exact b52 _
theorem bq8(vs ars xs:List Int)(rs:List (List Int)):j8.ok Tryz.prog (P1 55 [.ref 0,.ref 1,mA 2] [dI vs,dI ars,dI xs,dR rs] (bA (L4 vs.length ars.length ⟨xs,rs⟩))):=by
  refine D9 31 Tryz.func55 [dI vs,dI ars,dI xs,dR rs] [(0,.ref 0),(1,.ref 1),(2,.agg [.ref 2,.ref 3])] fun G=>?_;refine wp_seq (j7 G f8 (rg 5) [dI vs,dI ars,dI xs,dR rs,.box [.ref 2,.ref 3]] [(0,.ref 0),(1,.ref 1),(5,.ptr 4 0),(6,bA false)] fun G=>b6 (wp_seq (wp_seq ?_)));cases h0:((xs.length:Int) !=(vs.length:Int))
  ·
   have q0:=bne_eq_false_iff_eq.1 h0;cases h1:((rs.length:Int) !=(ars.length:Int))
   ·
    have q1:=bne_eq_false_iff_eq.1 h1;refine l6 G (I7 (y7 17 [2] (aE6 xs) I6) (fc h0 (fc h1 fz)) (us [(7,12,0),(1013,1013,0),(15,18,1),(1019,1019,1)])) [(26,.v (.bool !J3 xs))] fun G=>b6 ?_;cases h2:(!J3 xs)
    · have q2:(J3 xs)=true:=(Eq.mp (cG1 _) h2);refine rF G _ h2 (wp_skip (b6 (wp_seq (j7 G (x6 2 [3] (cv5 rs)) (rg 4) [dI vs,dI ars,dI xs,dR rs] [(6,.v (.bool !rs.any naB))] fun G=>b6 (wp_ret ?_)))));exact T9 (.v (.bool !rs.any naB)) G (rg 4) (by have e1:(L4 vs.length ars.length (z6.mk xs rs):Bool)=(!rs.any naB):=((cs8 (m:=⟨xs,rs⟩) (by dsimp only;omega) (by dsimp only;omega) ab).symm);(first|rw[e1]|simp only[e1])<;>rfl)
    have q2:(J3 xs)=false:=(Eq.mp (cF7 _) h2);refine rT G _ h2 (wp_seq (l6 G f8 [] fun G=>b6 (wp_ret (l7 ?_))));exact I8 false G (rg 4) (ct0 ab)
   have q1:=bne_iff_ne.1 h1;refine l6 G (H2 (fc h0 (fc h1 fz)) (us [(7,12,0),(1013,1013,0),(15,18,1),(1019,1019,1)])) [(26,bA true)] fun G=>b6 (rT G true aj (wp_seq (l6 G f8 [] fun G=>b6 (wp_ret (l7 ?_)))));exact I8 false G (rg 4) (ct1 (by dsimp only;omega))
  have q0:=bne_iff_ne.1 h0;refine l6 G (H2 (fc h0 (fc (b:=true) rfl fz)) (us [(7,12,0),(1013,1013,0),(15,18,1),(1019,1019,1)])) [(26,bA true)] fun G=>b6 (rT G true aj (wp_seq (l6 G f8 [] fun G=>b6 (wp_ret (l7 ?_)))));exact I8 false G (rg 4) (ct2 (by dsimp only;omega))
abbrev nnE:c7:=⟨0,0,[]⟩
abbrev cnE(n:Int):c7:=⟨1,n,[]⟩
abbrev vrE(v:Int):c7:=⟨2,v,[]⟩
abbrev rdE(a:Int)(i:c7):c7:=⟨3,a,[i]⟩
abbrev aj6(i:c7)(k:Int):c7:=⟨9,0,[⟨7,0,[i,cnE 3]⟩,cnE k]⟩
abbrev seE(a b c:c7):c7:=⟨11,0,[a,b,c]⟩
abbrev Y5(v:Int)(e:c7):c6:=⟨1,v,nnE,e,0,[],[]⟩
def E0(m:Int)(e f:c7):c7:=if m<0 then e else seE (vrE m) e f
def rdL(v a:Int)(i:c7):Nat->List c6
 |0=>[Y5 v (rdE a (cnE 0))]
 |k+1=>rdL v a i k++[Y5 v (seE (aj6 i ((k:Int)+1)) (rdE a (cnE ((k:Int)+1))) (vrE v))]
def stL(v t:Int)(i:c7)(m:Int):Nat->List c6
 |0=>[]
 |k+1=>stL v t i m k++[⟨2,t,cnE (k:Int),seE (E0 m (aj6 i (k:Int)) (cnE 0)) (vrE v) (rdE t (cnE (k:Int))),0,[],[]⟩]
abbrev LnS:Type:=List Int×List c6
mutual
def i5(ars:List Int)(pc:Int):c7->LnS->LnS×c7
 | ⟨k, v, ks⟩, s =>
  if k=3/\ae5 (j5 (A2 ars pc ks s).1.1 ars 5 (ks.getD 0 cD4))=true then
   (((A2 ars pc ks s).1.1++[m7 (j5 (A2 ars pc ks s).1.1 ars 5 ⟨k,v,ks⟩) pc],(A2 ars pc ks s).1.2++rdL ((A2 ars pc ks s).1.1.length:Int) v (ks.getD 0 cD4) 3),vrE ((A2 ars pc ks s).1.1.length:Int))
  else((A2 ars pc ks s).1,⟨k,v,(A2 ars pc ks s).2⟩)
def A2(ars:List Int)(pc:Int):List c7->LnS->LnS×List c7
 |[],s=>(s,[])
 |e::t,s=>((A2 ars pc t (i5 ars pc e s).1).1,(i5 ars pc e s).2::(A2 ars pc t (i5 ars pc e s).1).2)
end
theorem aO0(ars:List Int)(pc:Int)(e:c7)(s:LnS):i5 ars pc e s=
  if e.kind=3/\ae5 (j5 (A2 ars pc e.kids s).1.1 ars 5 (e.kids.getD 0 cD4))=true then
   (((A2 ars pc e.kids s).1.1++[m7 (j5 (A2 ars pc e.kids s).1.1 ars 5 e) pc],(A2 ars pc e.kids s).1.2++rdL ((A2 ars pc e.kids s).1.1.length:Int) e.value (e.kids.getD 0 cD4) 3),vrE ((A2 ars pc e.kids s).1.1.length:Int))
  else((A2 ars pc e.kids s).1,⟨e.kind,e.value,(A2 ars pc e.kids s).2⟩):=by
 cases e;rw[i5];rfl
theorem ax5(ars:List Int)(pc:Int):∀(a b:List c7) (s:LnS),A2 ars pc (a++b) s=((A2 ars pc b (A2 ars pc a s).1).1,(A2 ars pc a s).2++(A2 ars pc b (A2 ars pc a s).1).2)
 |[],b,s=>by simp[A2]
 |e::t,b,s=>by
  simp only[List.cons_append,A2]
  rw[ax5 ars pc t b]
theorem at5{ars:List Int}{pc:Int}{ks:List c7}{k:Nat}{s:LnS}(hk:k<ks.length):A2 ars pc (ks.take (k+1)) s=((i5 ars pc (ks.getD k cD4) (A2 ars pc (ks.take k) s).1).1,(A2 ars pc (ks.take k) s).2++[(i5 ars pc (ks.getD k cD4) (A2 ars pc (ks.take k) s).1).2]):=by
 rw[o0 _ _ hk,ax5,m6 hk]
 simp[A2]
abbrev ifM(x:LnS×c7)(m l:Int):LnS:=(x.1.1++[l]++[l],x.1.2++[Y5 (x.1.1.length:Int) (E0 m x.2 (cnE 0))]++[Y5 ((x.1.1++[l]).length:Int) (E0 m ⟨9,0,[vrE (x.1.1.length:Int),cnE 0]⟩ (cnE 0))])
mutual
def K0(ars:List Int):c6->Int->Int->LnS->LnS
 | ⟨k, t, i, v, c, b, e⟩, m, pc, s =>
  if k=4 then((r7 ars b m pc (s.1,[])).1,s.2++[⟨4,0,nnE,nnE,c,(r7 ars b m pc (s.1,[])).2,[]⟩])
  else if k=3 then
   (if ae5 (j5 s.1 ars 5 v)=true then
    r7 ars e (((i5 ars pc v s).1.1++[m7 pc (j5 s.1 ars 5 v)]).length:Int) (m7 pc (j5 s.1 ars 5 v)) (r7 ars b ((i5 ars pc v s).1.1.length:Int) (m7 pc (j5 s.1 ars 5 v)) (ifM (i5 ars pc v s) m (m7 pc (j5 s.1 ars 5 v))))
   else((r7 ars e m (m7 pc (j5 s.1 ars 5 v)) ((r7 ars b m (m7 pc (j5 s.1 ars 5 v)) ((i5 ars pc v s).1.1,[])).1,[])).1,
    (i5 ars pc v s).1.2++[⟨3,0,nnE,(i5 ars pc v s).2,0,(r7 ars b m (m7 pc (j5 s.1 ars 5 v)) ((i5 ars pc v s).1.1,[])).2,(r7 ars e m (m7 pc (j5 s.1 ars 5 v)) ((r7 ars b m (m7 pc (j5 s.1 ars 5 v)) ((i5 ars pc v s).1.1,[])).1,[])).2⟩]))
  else if k=5 then((i5 ars pc v s).1.1,(i5 ars pc v s).1.2++[⟨5,t,nnE,(i5 ars pc v s).2,0,[],[]⟩])
  else if k=1 then((i5 ars pc v s).1.1,(i5 ars pc v s).1.2++[Y5 t (E0 m (i5 ars pc v s).2 (vrE t))])
  else if ae5 (j5 (i5 ars pc v s).1.1 ars 5 i)=true then
   ((i5 ars pc v s).1.1++[m7 (j5 (i5 ars pc v s).1.1 ars 5 (i5 ars pc v s).2) pc],(i5 ars pc v s).1.2++[Y5 ((i5 ars pc v s).1.1.length:Int) (i5 ars pc v s).2]++stL ((i5 ars pc v s).1.1.length:Int) t i m 4)
  else((i5 ars pc v s).1.1,(i5 ars pc v s).1.2++[⟨2,t,i,E0 m (i5 ars pc v s).2 (rdE t i),0,[],[]⟩])
def r7(ars:List Int):List c6->Int->Int->LnS->LnS
 |[],_,_,s=>s
 |x::r,m,pc,s=>r7 ars r m pc (K0 ars x m pc s)
end
theorem bd3(ars:List Int)(a b:List c6)(m pc:Int)(s:LnS):r7 ars (a++b) m pc s=r7 ars b m pc (r7 ars a m pc s):=by
 induction a generalizing s with
 |nil=>rfl
 |cons x r ih=>simp only[List.cons_append,r7];exact ih _
theorem bD8{ars:List Int}{ss:List c6}{k:Nat}{m pc:Int}{s:LnS}(hk:k<ss.length):r7 ars (ss.take (k+1)) m pc s=K0 ars (ss.getD k cD4) m pc (r7 ars (ss.take k) m pc s):=by
 rw[o0 _ _ hk,bd3,m6 hk]
 simp[r7]
section
variable{ars:List Int}{s:c6}{m pc:Int}{x:LnS}
theorem ln4(k:s.kind=4):K0 ars s m pc x=((r7 ars s.body m pc (x.1,[])).1,x.2++[⟨4,0,nnE,nnE,s.count,(r7 ars s.body m pc (x.1,[])).2,[]⟩]):=by
 obtain⟨kd,tg,ix,vl,ct,bd,el⟩:=s
 have k:kd=4:=k
 rw[K0,if_pos k];rfl
theorem cq3(k:s.kind=3)(h:ae5 (j5 x.1 ars 5 s.value)=true):K0 ars s m pc x=r7 ars s.els (((i5 ars pc s.value x).1.1++[m7 pc (j5 x.1 ars 5 s.value)]).length:Int) (m7 pc (j5 x.1 ars 5 s.value)) (r7 ars s.body ((i5 ars pc s.value x).1.1.length:Int) (m7 pc (j5 x.1 ars 5 s.value)) (ifM (i5 ars pc s.value x) m (m7 pc (j5 x.1 ars 5 s.value)))):=by
 obtain⟨kd,tg,ix,vl,ct,bd,el⟩:=s
 have k:kd=3:=k
 have h:ae5 (j5 x.1 ars 5 vl)=true:=h
 rw[K0,if_neg al,if_pos k,if_pos h];rfl
theorem cq4(k:s.kind=3)(h:ae5 (j5 x.1 ars 5 s.value)=false):K0 ars s m pc x=((r7 ars s.els m (m7 pc (j5 x.1 ars 5 s.value)) ((r7 ars s.body m (m7 pc (j5 x.1 ars 5 s.value)) ((i5 ars pc s.value x).1.1,[])).1,[])).1,
  (i5 ars pc s.value x).1.2++[⟨3,0,nnE,(i5 ars pc s.value x).2,0,(r7 ars s.body m (m7 pc (j5 x.1 ars 5 s.value)) ((i5 ars pc s.value x).1.1,[])).2,(r7 ars s.els m (m7 pc (j5 x.1 ars 5 s.value)) ((r7 ars s.body m (m7 pc (j5 x.1 ars 5 s.value)) ((i5 ars pc s.value x).1.1,[])).1,[])).2⟩]):=by
 obtain⟨kd,tg,ix,vl,ct,bd,el⟩:=s
 have k:kd=3:=k
 have h:ae5 (j5 x.1 ars 5 vl)=false:=h
 rw[K0,if_neg al,if_pos k,if_neg (by rw[h];decide)];rfl
theorem ln5(k:s.kind=5):K0 ars s m pc x=((i5 ars pc s.value x).1.1,(i5 ars pc s.value x).1.2++[⟨5,s.target,nnE,(i5 ars pc s.value x).2,0,[],[]⟩]):=by
 obtain⟨kd,tg,ix,vl,ct,bd,el⟩:=s
 have k:kd=5:=k
 rw[K0,if_neg al,if_neg al,if_pos k];rfl
theorem ln1(k:s.kind=1):K0 ars s m pc x=((i5 ars pc s.value x).1.1,(i5 ars pc s.value x).1.2++[Y5 s.target (E0 m (i5 ars pc s.value x).2 (vrE s.target))]):=by
 obtain⟨kd,tg,ix,vl,ct,bd,el⟩:=s
 have k:kd=1:=k
 rw[K0,if_neg al,if_neg al,if_neg al,if_pos k];rfl
theorem cq5(k:s.kind=2)(h:ae5 (j5 (i5 ars pc s.value x).1.1 ars 5 s.index)=true):K0 ars s m pc x=((i5 ars pc s.value x).1.1++[m7 (j5 (i5 ars pc s.value x).1.1 ars 5 (i5 ars pc s.value x).2) pc],(i5 ars pc s.value x).1.2++[Y5 ((i5 ars pc s.value x).1.1.length:Int) (i5 ars pc s.value x).2]++stL ((i5 ars pc s.value x).1.1.length:Int) s.target s.index m 4):=by
 obtain⟨kd,tg,ix,vl,ct,bd,el⟩:=s
 have k:kd=2:=k
 have h:ae5 (j5 (i5 ars pc vl x).1.1 ars 5 ix)=true:=h
 rw[K0,if_neg al,if_neg al,if_neg al,if_neg al,if_pos h];rfl
theorem cq6(k:s.kind=2)(h:ae5 (j5 (i5 ars pc s.value x).1.1 ars 5 s.index)=false):K0 ars s m pc x=((i5 ars pc s.value x).1.1,(i5 ars pc s.value x).1.2++[⟨2,s.target,s.index,E0 m (i5 ars pc s.value x).2 (rdE s.target s.index),0,[],[]⟩]):=by
 obtain⟨kd,tg,ix,vl,ct,bd,el⟩:=s
 have k:kd=2:=k
 have h:ae5 (j5 (i5 ars pc vl x).1.1 ars 5 ix)=false:=h
 rw[K0,if_neg al,if_neg al,if_neg al,if_neg al,if_neg (by rw[h];decide)];rfl
end
theorem H5{nv nw na:Nat}(h:nv<=nw):∀(d:Nat) (e:c7),i7 nv na d e=true->i7 nw na d e=true
 |0,_,hs=>by simp[i7]at hs
 |d+1,e,hs=>by
  simp only[i7,cD5,cE2]at hs ⊢
  refine⟨⟨?_,fun x hx=>H5 h d x (hs.1.2 x hx)⟩,hs.2⟩
  have h1:=hs.1.1
  simp only[U3,cD5,decide_eq_true_eq]at h1 ⊢
  refine⟨h1.1,Int.lt_of_lt_of_le h1.2 ?_⟩
  unfold X5
  (repeat' split)<;>omega
theorem aL5{nv na:Nat}:∀(d:Nat) (e:c7),i7 nv na d e=true->i7 nv na (d+1) e=true
 |0,_,hs=>by simp[i7]at hs
 |d+1,e,hs=>by
  rw[i7]at hs ⊢
  simp only[cD5,cE2]at hs ⊢
  exact⟨⟨hs.1.1,fun x hx=>aL5 d x (hs.1.2 x hx)⟩,hs.2⟩
theorem ba0{nv na c d:Nat}{e:c7}(h:c<=d)(hs:i7 nv na c e=true):i7 nv na d e=true:=by
 induction d with
 |zero=>rwa[show c=0 by omega]at hs
 |succ d ih=>
  rcases cF9 c (d+1)with hl|hl
  ·exact aL5 d e (ih al)
  rwa[show c=d+1 by omega]at hs
theorem aR5{ars:List Int}{pc:Int}{nv na d:Nat}{e:c7}{s:LnS}(ha:atomB e=true)(hs:i7 nv na d e=true):i5 ars pc e s=(s,e)/\e.kids=[]:=by
 obtain⟨k,v,ks⟩:=e
 cases d with
 |zero=>simp[i7]at hs
 | succ d =>
  have hk:k=1\/k=2:=by
   have h:=ha
   simp only[atomB,cI1,decide_eq_true_eq]at h
   exact h
  have hn:ks=[]:=by
   simp only[i7,U3,cD5,decide_eq_true_eq]at hs
   have h1:=hs.1.1.1.1
   have h2:x8 k=0:=by unfold x8;rw[if_pos hk]
   have h3:(ks.length:Int)=0:=h1.trans h2
   exact cF4 al
  subst hn
  refine⟨?_,rfl⟩
  rw[i5,if_neg al]
  rfl
theorem bb7{nv na d:Nat}{e:c7}(k:e.kind=3)(hs:i7 nv na (d+1) e=true):∃a,e.kids=[a]/\atomB a=true/\i7 nv na d a=true/\a.kids=[]:=by
 obtain⟨kd,v,ks⟩:=e
 have k:kd=3:=k
 subst k
 simp only[i7,U3,cD5,decide_eq_true_eq]at hs
 have h1:(ks.length:Int)=1:=hs.1.1.1.1
 match ks,h1,hs with
 | [a], _, hs =>
  have h2:atomB a=true:=by
   have h:=hs.2
   unfold aD9 at h
   have h:(decide ((3:Int)≠3)||atomB a)=true:=h
   simpa using h
  have h3:i7 nv na d a=true:=cE2.1 hs.1.2 a (cG7.2 rfl)
  exact⟨a,rfl,h2,h3,(aR5 (ars:=[]) (pc:=0) (s:=([],[])) h2 h3).2⟩
theorem bb6{ars:List Int}{pc:Int}{nv na d:Nat}{e:c7}{s:LnS}(k:e.kind=3)(hs:i7 nv na (d+1) e=true):A2 ars pc e.kids s=(s,e.kids):=by
 obtain⟨a,h1,h2,h3,-⟩:=bb7 k hs
 rw[h1]
 have:=aR5 (ars:=ars) (pc:=pc) (s:=s) h2 h3
 simp only[A2,this.1]
structure Grw(nv na d:Nat)(sz:Nat)(s:LnS)(r:LnS):Prop where
 lo:s.1.length<=r.1.length
 hi:r.1.length<=s.1.length+sz
 st:j6 r.2<=j6 s.2+40*sz
 len:s.2.length<=r.2.length
theorem bM2(v a:Int)(i:c7)(hi:i.kids=[]):∀n:Nat,j6 (rdL v a i n)=2+9*n
 |0=>rfl
 |n+1=>by
  have h0:C0 i=0:=by cases i;simp only[c7.kids]at hi;subst hi;rfl
  rw[rdL,z9,bM2 v a i hi n]
  simp[j6,N5,C0,G5,h0];omega
theorem a24(v a:Int)(i:c7):∀n:Nat,(rdL v a i n).length=n+1
 |0=>rfl
 |n+1=>by rw[rdL,cE0,a24 v a i n];rfl
theorem bu5(v t:Int)(i:c7)(m:Int):∀n:Nat,(stL v t i m n).length=n
 |0=>rfl
 |n+1=>by rw[stL,cE0,bu5 v t i m n];rfl
theorem ah3(m:Int)(e f:c7):C0 (E0 m e f)<=3+C0 e+C0 f:=by
 unfold E0;split
 ·omega
 simp[C0,G5];omega
theorem bK2(v t:Int)(i:c7)(m:Int)(hi:i.kids=[]):∀n:Nat,j6 (stL v t i m n)<=20*n
 |0=>cE1 _
 |n+1=>by
  have h0:C0 i=0:=by cases i;simp only[c7.kids]at hi;subst hi;rfl
  have h1:=bK2 v t i m hi n
  have h2:=ah3 m (aj6 i (n:Int)) (cnE 0)
  have h3:C0 (aj6 i (n:Int))=4:=by simp[C0,G5,h0]
  have h4:C0 (cnE 0)=0:=rfl
  rw[stL,z9]
  simp only[j6,N5,C0,G5]
  omega
theorem bA9{nv na d:Nat}{v:Nat}(h:v<nv):i7 nv na (d+1) (vrE (v:Int))=true:=by
 simp[i7,U3,aD9,x8,X5,c7.kids,c7.kind,c7.value,h]
theorem bx3{ars:List Int}{pc:Int}{na d:Nat}(hg:∀(e:c7) (s:LnS),i7 s.1.length na d e=true->Grw s.1.length na d (1+C0 e) s (i5 ars pc e s).1/\i7 (i5 ars pc e s).1.1.length na d (i5 ars pc e s).2=true/\C0 (i5 ars pc e s).2<=C0 e):
  ∀(ks:List c7) (s:LnS),(∀x∈ks,i7 s.1.length na d x=true)->Grw s.1.length na d (G5 ks) s (A2 ars pc ks s).1/\(∀x∈(A2 ars pc ks s).2,i7 (A2 ars pc ks s).1.1.length na d x=true)/\G5 (A2 ars pc ks s).2<=G5 ks/\(A2 ars pc ks s).2.length=ks.length:=by
 intro ks
 induction ks with
 |nil=>intro s _;exact⟨⟨cE1 _,cE1 _,cE1 _,cE1 _⟩,fun x hx=>(by cases hx),cE1 _,rfl⟩
 | cons x r ih =>
  intro s h
  obtain⟨g1,g2,g3⟩:=hg x s (h x cH7)
  obtain⟨k1,k2,k3,k4⟩:=ih (i5 ars pc x s).1 fun y hy=>H5 g1.lo d y (h y (cH5 _ hy))
  simp only[A2,G5]
  refine⟨⟨cG3 g1.lo k1.lo,?_,?_,cG3 g1.len k1.len⟩,?_,?_,?_⟩
  ·have:=g1.hi;have:=k1.hi;omega
  ·have:=g1.st;have:=k1.st;omega
  ·intro y hy
   rcases cH6.1 hy with rfl|hy
   ·exact H5 k1.lo d _ g2
   exact k2 y hy
  ·omega
  simp[k4]
theorem ao4(ars:List Int)(pc:Int)(na:Nat):∀(d:Nat) (e:c7) (s:LnS),i7 s.1.length na d e=true->
  Grw s.1.length na d (1+C0 e) s (i5 ars pc e s).1/\i7 (i5 ars pc e s).1.1.length na d (i5 ars pc e s).2=true/\C0 (i5 ars pc e s).2<=C0 e
 |0,_,_,hs=>by simp[i7]at hs
 | d + 1, e, s, hs => by
  have key:=bx3 (ars:=ars) (pc:=pc) (na:=na) (d:=d) fun e s h=>ao4 ars pc na d e s h
  have hs0:=hs
  rw[i7]at hs
  simp only[cD5,cE2]at hs
  obtain⟨g1,g2,g3,g4⟩:=key e.kids s hs.1.2
  rw[aO0]
  split
  ·rename_i h
   obtain⟨a,h1,h2,h3,h4⟩:=bb7 h.1 hs0
   have hz:C0 e=1:=by
    rw[O3,h1]
    have:C0 a=0:=by rw[O3,h4];rfl
    simp[G5,this]
   have hr:=bb6 (ars:=ars) (pc:=pc) (s:=s) h.1 hs0
   have e0:e.kids.getD 0 cD4=a:=by rw[h1];rfl
   rw[hr,e0]
   refine⟨⟨?_,?_,?_,?_⟩,?_,?_⟩
   ·simp
   ·simp
   ·simp only[z9,bM2 _ _ a h4];omega
   ·simp
   ·have:i7 (s.1.length+1) na (d+1) (vrE (s.1.length:Int))=true:=bA9 al
    simpa using this
   exact cG8 _
  rename_i h
  refine⟨⟨g1.lo,?_,?_,g1.len⟩,?_,?_⟩
  ·have:=g1.hi;rw[O3];show(A2 ars pc e.kids s).1.1.length<=_;omega
  ·have:=g1.st;rw[O3];show j6 (A2 ars pc e.kids s).1.2<=_;omega
  ·rw[i7]
   simp only[cD5,cE2]
   refine⟨⟨?_,g2⟩,?_⟩
   ·have h1:=hs.1.1
    simp only[U3,cD5,decide_eq_true_eq]at h1 ⊢
    refine⟨⟨?_,h1.1.2⟩,Int.lt_of_lt_of_le h1.2 ?_⟩
    ·show(((A2 ars pc e.kids s).2.length:Nat):Int)=x8 e.kind
     rw[g4];exact h1.1.1
    show X5 s.1.length na e.kind<=X5 (A2 ars pc e.kids s).1.1.length na e.kind
    have:=g1.lo
    unfold X5
    (repeat' split)<;>omega
   by_cases k:e.kind=3
   ·rw[bb6 (ars:=ars) (pc:=pc) (s:=s) k hs0]
    show aD9 ⟨e.kind,e.value,e.kids⟩=true
    rw[c7.eta];exact hs.2
   unfold aD9;rw[cI1];exact .inl (decide_eq_true k)
  rw[O3 e];exact g3
section
variable{p:i6}{l k:Int}(h:n9 p=true)(hl:i9 l=true)
include h hl
end
section
variable{p:i6}{l:Int}
end
section
variable{p q:i6}{m:z6}
end
theorem bo8(v:Value)(n:Nat)(t:List Value)(w:World)(h:J0 w v n 1 t)(h1:∀u∈t,u.oneCell'=true)(hb:n<=1000000000000):
  Calls Tryz.prog 108 #[v] w fun e w'=>∃u,e=.returned u/\D2 w' w.heap.size w'.heap.size 23 1 u n t/\Below w.heap.size w w':=by
 obtain⟨a,cap,rfl,hc1,hc2,hc3,-⟩:=h.open
 have hnil:=fun w=>Lib.run_eql_slice_nil (P:=Tryz.prog) w 27 23 a n cap 0 0 Tryz.underlying27
 rcases a with _|a
 ·have hn:n=0:=by
   rcases Nat.eq_zero_or_pos n with h0|h0
   ·exact h0
   obtain⟨_,a,c,he,_,_,hx⟩:=h
   cases he
   obtain⟨_,_,he,_⟩:=hx h0
   cases he
  subst hn
  have ht:t=[]:=cF4 (by have:=h.1;omega)
  subst ht
  simp only[Option.isNone_none]at hnil
  go_enter Tryz.func108,Tryz.ntmps108
  go_wp2_with fail
  go_ret
  exact⟨_,rfl,⟨World.ownsRow_nil _ _ _ _,fun g hg=>by cases hg⟩,Below.refl _ _⟩
 go_enter Tryz.func108,Tryz.ntmps108
 simp only[Option.isNone_some]at hnil
 have ba:=(Below.refl w.heap.size w).alloc (cE1 _) (.cells #[] 23)
 go_wp2_with (at_builtin;refine H4 rfl _ _ rfl Tryz.underlying27 b22 rfl al rfl (A8 w #[] 0 1 _ rfl rfl al).1 rfl (h.below ba) h1 al al an ?_;rintro a4 q4 w4 o4 b4- -)
 go_ret
 refine⟨_,rfl,D2.mk' (by simpa using o4),ba.trans b4⟩
section
variable{b:List UInt8}{j:Int}{m:z6}
end
structure GrS(sz:Nat)(x r:LnS):Prop where
 lo:x.1.length<=r.1.length
 hi:r.1.length<=x.1.length+4*sz
 st:j6 r.2<=j6 x.2+130*sz
 len:x.2.length<=r.2.length
theorem GrS.refl(x:LnS)(n:Nat):GrS n x x:=⟨cE1 _,al,al,cE1 _⟩
theorem aO8{nv na:Nat}{s:c6}(h:G3 nv na s=true)(k:s.kind=2):s.index.kids=[]/\atomB s.index=true/\i7 nv na 5 s.index=true:=by
 rw[be9 k]at h
 simp only[cD5]at h
 have hs:=al2 h.2.1
 exact⟨(aR5 (ars:=[]) (pc:=0) (s:=([],[])) h.2.2.1 hs).2,h.2.2.1,hs⟩
theorem aH6{e:c7}(h:e.kids=[]):C0 e=0:=by rw[O3,h];rfl
theorem a37{ars:List Int}{na nv d:Nat}(ih:∀(s:c6) (m pc:Int) (x:LnS),j9 nv na d s=true->nv<=x.1.length->GrS (1+N5 s) x (K0 ars s m pc x)):
  ∀(ss:List c6) (m pc:Int) (x:LnS),ss.all (j9 nv na d)=true->nv<=x.1.length->GrS (j6 ss) x (r7 ars ss m pc x)
 |[],_,_,x,_,_=>GrS.refl x _
 |s::r,m,pc,x,h,hx=>by
  simp only[List.all_cons,cD5]at h
  have h1:=ih s m pc x h.1 hx
  have h2:=a37 ih r m pc (K0 ars s m pc x) h.2 (cG3 hx h1.lo)
  rw[r7,j6]
  exact⟨cG3 h1.lo h2.lo,by have:=h1.hi;have:=h2.hi;omega,by have:=h1.st;have:=h2.st;omega,cG3 h1.len h2.len⟩
theorem bx4(ars:List Int)(na nv:Nat):∀(d:Nat) (s:c6) (m pc:Int) (x:LnS),j9 nv na d s=true->nv<=x.1.length->GrS (1+N5 s) x (K0 ars s m pc x)
 |0,_,_,_,_,h,_=>by simp[j9]at h
 | d + 1, s, m, pc, x, h, hx => by
  have blk:=fun(ss:List c6) (m pc:Int) (x:LnS)=>a37 (ars:=ars) (na:=na) (nv:=nv) (d:=d) (fun s m pc x=>bx4 ars na nv d s m pc x) ss m pc x
  rw[V0,cD5,cD5]at h
  obtain⟨hh,hb,he⟩:=h
  have hsz:N5 s=C0 s.index+C0 s.value+j6 s.body+j6 s.els:=by cases s;rfl
  by_cases k4:s.kind=4
  ·rw[ln4 k4]
   have h1:=blk s.body m pc (x.1,[]) hb hx
   have a:=h1.lo;have b:=h1.hi;have c:=h1.st
   simp only[j6]at a b c
   have e0:C0 nnE=0:=rfl
   refine⟨a,?_,?_,?_⟩
   ·simp only;omega
   ·simp only[z9,j6,N5,e0];omega
   simp
  have hv:i7 x.1.length na 5 s.value=true:=H5 hx 5 _ (C3 hh k4)
  obtain⟨g1,g2,g3⟩:=ao4 ars pc na 5 s.value x hv
  have a0:=g1.lo;have b0:=g1.hi;have c0:=g1.st;have d0:=g1.len
  have e0:C0 nnE=0:=rfl
  have e1:C0 (cnE 0)=0:=rfl
  by_cases k3:s.kind=3
  ·cases hs:ae5 (j5 x.1 ars 5 s.value)
   ·rw[cq4 k3 hs]
    have h1:=blk s.body m (m7 pc (j5 x.1 ars 5 s.value)) ((i5 ars pc s.value x).1.1,[]) hb (cG3 hx a0)
    have h2:=blk s.els m (m7 pc (j5 x.1 ars 5 s.value)) ((r7 ars s.body m (m7 pc (j5 x.1 ars 5 s.value)) ((i5 ars pc s.value x).1.1,[])).1,[]) he (cG3 hx (cG3 a0 h1.lo))
    have a:=h1.lo;have b:=h1.hi;have c:=h1.st
    have a2:=h2.lo;have b2:=h2.hi;have c2:=h2.st
    simp only[j6]at a b c a2 b2 c2
    refine⟨?_,?_,?_,?_⟩
    ·simp only;omega
    ·simp only;omega
    ·simp only[z9,j6,N5,e0];omega
    simp;omega
   rw[cq3 k3 hs]
   generalize hl:m7 pc (j5 x.1 ars 5 s.value)=l
   generalize hy:ifM (i5 ars pc s.value x) m l=y
   have y1:y.1.length=(i5 ars pc s.value x).1.1.length+2:=by rw[<-hy];simp
   have y2:j6 y.2<=j6 (i5 ars pc s.value x).1.2+20+C0 (i5 ars pc s.value x).2:=by
    have m1:=ah3 m (i5 ars pc s.value x).2 (cnE 0)
    have m2:=ah3 m ⟨9,0,[vrE ((i5 ars pc s.value x).1.1.length:Int),cnE 0]⟩ (cnE 0)
    have m3:C0 ⟨9,0,[vrE ((i5 ars pc s.value x).1.1.length:Int),cnE 0]⟩=2:=rfl
    rw[<-hy]
    simp only[ifM,z9,j6,N5,e0];omega
   have y3:(i5 ars pc s.value x).1.2.length<=y.2.length:=by rw[<-hy];simp
   have h1:=blk s.body ((i5 ars pc s.value x).1.1.length:Int) l y hb al
   have h2:=blk s.els (((i5 ars pc s.value x).1.1++[l]).length:Int) l (r7 ars s.body ((i5 ars pc s.value x).1.1.length:Int) l y) he (by have:=h1.lo;omega)
   have a:=h1.lo;have b:=h1.hi;have c:=h1.st;have d1:=h1.len
   have a2:=h2.lo;have b2:=h2.hi;have c2:=h2.st;have d2:=h2.len
   exact⟨al,al,al,al⟩
  by_cases k5:s.kind=5
  ·rw[ln5 k5]
   refine⟨a0,?_,?_,?_⟩
   ·simp only;omega
   ·simp only[z9,j6,N5,e0];omega
   simp;omega
  by_cases k1:s.kind=1
  ·rw[ln1 k1]
   have m1:=ah3 m (i5 ars pc s.value x).2 (vrE s.target)
   have m2:C0 (vrE s.target)=0:=rfl
   refine⟨a0,?_,?_,?_⟩
   ·simp only;omega
   ·simp only[z9,j6,N5,e0];omega
   simp;omega
  by_cases k2:s.kind=2
  ·obtain⟨q1,-,-⟩:=aO8 hh k2
   cases hs:ae5 (j5 (i5 ars pc s.value x).1.1 ars 5 s.index)
   ·rw[cq6 k2 hs]
    have m1:=ah3 m (i5 ars pc s.value x).2 (rdE s.target s.index)
    have m2:C0 (rdE s.target s.index)=1:=by simp[C0,G5,aH6 q1]
    have m3:=aH6 q1
    refine⟨a0,?_,?_,?_⟩
    ·simp only;omega
    ·simp only[z9,j6,N5];omega
    simp;omega
   rw[cq5 k2 hs]
   have m1:=bK2 ((i5 ars pc s.value x).1.1.length:Int) s.target s.index m q1 4
   refine⟨?_,?_,?_,?_⟩
   ·simp;omega
   ·simp;omega
   ·simp only[z9,j6,N5,e0];omega
   simp;omega
  rw[ar4 ⟨k1,k2,k3,k4,k5⟩]at hh;cases hh
theorem a38(ars:List Int){na nv d:Nat}(ss:List c6)(m pc:Int)(x:LnS)(h:ss.all (j9 nv na d)=true)(hx:nv<=x.1.length):GrS (j6 ss) x (r7 ars ss m pc x):=a37 (bx4 ars na nv d) ss m pc x h hx
theorem aw6{nv na:Nat}{e:c7}(h:x5 nv na e=true):C0 e<=14:=by
 unfold x5 at h;simp only[cD5,decide_eq_true_eq]at h;omega
theorem aH4{e:c7}(h:noneB e=true):C0 e=0:=by
 unfold noneB at h;simp only[cD5,decide_eq_true_eq]at h
 exact aH6 (cF4 h.2)
theorem bu1{nv na d:Nat}(ih:∀s:c6,j9 nv na d s=true->1+N5 s<=29*nS s):∀ss:List c6,ss.all (j9 nv na d)=true->j6 ss<=29*X8 ss
 |[],_=>cE1 _
 |s::r,h=>by
  simp only[List.all_cons,cD5]at h
  have h1:=ih s h.1
  have h2:=bu1 ih r h.2
  rw[j6,X8];omega
theorem bJ6{nv na:Nat}:∀(d:Nat) (s:c6),j9 nv na d s=true->1+N5 s<=29*nS s
 |0,_,h=>by simp[j9]at h
 | d + 1, s, h => by
  rw[V0,cD5,cD5]at h
  obtain⟨hh,hb,he⟩:=h
  have h1:=bu1 (fun s=>bJ6 d s) s.body hb
  have h2:=bu1 (fun s=>bJ6 d s) s.els he
  have hsz:N5 s=C0 s.index+C0 s.value+j6 s.body+j6 s.els:=by cases s;rfl
  have hn:=aA9 s
  have key:C0 s.index+C0 s.value<=28:=by
   by_cases k4:s.kind=4
   ·rw[cr9 k4]at hh;simp only[cD5]at hh
    have:=aH4 hh.2.1;have:=aH4 hh.2.2;omega
   by_cases k3:s.kind=3
   ·rw[b80 k3]at hh;simp only[cD5]at hh
    have:=aH4 hh.2.1;have:=aw6 hh.2.2;omega
   by_cases k15:s.kind=1\/s.kind=5
   ·rw[bR4 k15]at hh;simp only[cD5]at hh
    have:=aH4 hh.2.1;have:=aw6 hh.2.2;omega
   by_cases k2:s.kind=2
   ·rw[be9 k2]at hh;simp only[cD5]at hh
    have:=aw6 hh.2.1;have:=aw6 hh.2.2.2;omega
   rw[ar4 al]at hh;cases hh
  omega
def aN9(p:i6):LnS:=r7 p.arrays p.body (-1) 0 (p.vars,[])
def bD7(p:i6):i6:=⟨(aN9 p).1,p.arrays,(aN9 p).2⟩
theorem af2{p:i6}(h:n9 p=true):p.vars.length<=12/\p.arrays.length<=2/\j6 p.body<=1740:=by
 unfold n9 F9 ai2 at h
 simp only[cD5,decide_eq_true_eq]at h
 have:=bu1 (bJ6 5) p.body h.1.2
 omega
theorem bx5{p:i6}(h:n9 p=true):p.vars.length<=(aN9 p).1.length/\(aN9 p).1.length<=7000/\j6 (aN9 p).2<=230000:=by
 have hz:=af2 h
 have hb:p.body.all (j9 p.vars.length p.arrays.length 5)=true:=(aA7 h).2.2.2
 have g:=a38 p.arrays p.body (-1) 0 (p.vars,[]) hb (cE1 _)
 have a:=g.lo;have b:=g.hi;have c:=g.st
 simp only[j6]at a b c
 unfold aN9
 omega
theorem b17{p:i6}(h:n9 p=true):(bD7 p).size<=240000:=by
 have h1:=bx5 h
 have h2:=af2 h
 show(aN9 p).1.length+p.arrays.length+j6 (aN9 p).2<=_
 omega
def okL(p:i6):Bool:=decide ((X9 p false).1=0)&&n9 (bD7 p)
def J5(p:i6):i6:=if okL p=true then bD7 p else⟨[],[],[]⟩
theorem ah6{p:i6}(h:(X9 p false).1=0):n9 p=true:=((b39 p false).1 h).1
theorem cp3{p:i6}(h:¬(X9 p false).1=0):okL p=false:=by unfold okL;rw[decide_eq_false h,Bool.false_and]
theorem b75{p:i6}(h:n9 (bD7 p)=false):okL p=false:=by unfold okL;rw[h,Bool.and_false]
theorem b74{p:i6}(h:(X9 p false).1=0)(h2:n9 (bD7 p)=true):okL p=true:=by unfold okL;rw[decide_eq_true h,h2];rfl
theorem bx2{p:i6}(h:okL p=false):J5 p=⟨[],[],[]⟩:=by unfold J5;rw[h];rfl
theorem b76{p:i6}(h:okL p=true):J5 p=bD7 p:=by unfold J5;rw[h];rfl
theorem ce3(p:i6):(J5 p).size<=240000:=by
 cases h:okL p
 ·rw[bx2 h];simp[i6.size,j6]
 rw[b76 h]
 unfold okL at h
 simp only[cD5,decide_eq_true_eq]at h
 exact b17 (ah6 h.1)
theorem aP7{nv na d k:Nat}{ss:List c6}(hs:ss.all (j9 nv na (d+1))=true)(hk:k<ss.length):G3 nv na (ss.getD k cD4)=true/\(ss.getD k cD4).body.all (j9 nv na d)=true/\(ss.getD k cD4).els.all (j9 nv na d)=true:=by
 have h:=cE2.1 hs _ (cF3 hk)
 rw[V0,cD5,cD5]at h
 rw[m6 hk];exact h
abbrev lqC(l:List d9)(fr:List Int)(at0:Int)(s:c6)(d:Int):j8:=⟨182,[.agg [.ref 0,.ref 1,iA at0],sA s 2,iA d],[rN l,rI fr]++sS s,[.dead,.dead]++sS s++[rN (U5 s d (l,fr,at0)).1,rI (U5 s d (l,fr,at0)).2.1],.agg [.ref 6,.ref 7,iA (U5 s d (l,fr,at0)).2.2]⟩
abbrev lrC(l:List d9)(fr:List Int)(at0:Int)(ss:List c6)(d:Int):j8:=⟨145,[.agg [.ref 0,.ref 1,iA at0],.ref 2,iA d],[rN l,rI fr,dT ss],[.dead,.dead,dT ss,rN (t5 ss d (l,fr,at0)).1,rI (t5 ss d (l,fr,at0)).2.1],.agg [.ref 3,.ref 4,iA (t5 ss d (l,fr,at0)).2.2]⟩
mutual
theorem ch1:∀(s:c6) (d:Int) (x:M0),x.2.2<=(U5 s d x).2.2/\(U5 s d x).2.2<=x.2.2+nS s
 | ⟨k, t, i, v, c, b, e⟩, d, x => by
  rw[U5,nS]
  split
  ·have h:=am7 b (d+1) (J7 (x.1,x.2.1,x.2.2+1) x.2.2 [⟨1,9+d,c,0,0⟩])
   simp only[J7]at h ⊢
   omega
  split
  ·simp only[J7];omega
  split
  ·simp only[J7];omega
  split
  ·simp only[J7];omega
  simp only
  generalize hy:J7 (x.1,x.2.1,x.2.2+1) x.2.2 (d7 v 0)=y
  have hy1:y.2.2=x.2.2+1:=by rw[<-hy];rfl
  have h1:=am7 b (d+1) (J7 y x.2.2 [⟨9,0,0,0,0⟩])
  generalize t5 b (d+1) (J7 y x.2.2 [⟨9,0,0,0,0⟩])=z at h1 ⊢
  have h2:=am7 e (d+1) (bM5 (J7 z x.2.2 [⟨8,0,0,0,0⟩]).1 y.1.length ((J7 z x.2.2 [⟨8,0,0,0,0⟩]).1.length:Int),(J7 z x.2.2 [⟨8,0,0,0,0⟩]).2)
  simp only[J7]at h1 h2 ⊢
  omega
theorem am7:∀(ss:List c6) (d:Int) (x:M0),x.2.2<=(t5 ss d x).2.2/\(t5 ss d x).2.2<=x.2.2+X8 ss
 |[],_,x=>by simp[t5,X8]
 |s::r,d,x=>by
  have h1:=ch1 s d x
  have h2:=am7 r d (U5 s d x)
  rw[t5,X8]
  omega
end
section
variable{l:List d9}{fr:List Int}{at0 d:Int}{s:c6}
theorem cm1(k:s.kind=1):U5 s d (l,fr,at0)=(l++d7 s.value 0++[⟨3,s.target,0,0,0⟩],fr++cD6 (d7 s.value 0).length at0++[at0],at0+1):=by
 obtain⟨kd,tg,ix,vl,ct,bd,el⟩:=s
 have k:kd=1:=k
 rw[U5]
 simp only[k,Int.reduceEq,if_true,if_false]
 rfl
theorem cm5(k:s.kind=5):U5 s d (l,fr,at0)=(l++d7 s.value 0++[⟨11,0,0,0,0⟩]++[⟨3,s.target,0,0,0⟩],fr++cD6 (d7 s.value 0).length at0++[at0]++[at0],at0+1):=by
 obtain⟨kd,tg,ix,vl,ct,bd,el⟩:=s
 have k:kd=5:=k
 rw[U5]
 simp only[k,Int.reduceEq,if_true,if_false]
 rfl
theorem cm2(k:s.kind=2):U5 s d (l,fr,at0)=(l++d7 s.value 0++d7 s.index 1++[⟨5,s.target,1,0,0⟩],fr++cD6 (d7 s.value 0).length at0++cD6 (d7 s.index 1).length at0++[at0],at0+1):=by
 obtain⟨kd,tg,ix,vl,ct,bd,el⟩:=s
 have k:kd=2:=k
 rw[U5]
 simp only[k,Int.reduceEq,if_true,if_false]
 rfl
theorem cm4(k:s.kind=4):U5 s d (l,fr,at0)=((t5 s.body (d+1) (l++[⟨1,9+d,s.count,0,0⟩],fr++[at0],at0+1)).1++[⟨10,9+d,(((l++[(⟨1,9+d,s.count,0,0⟩:d9)]).length:Nat):Int),0,0⟩],(t5 s.body (d+1) (l++[⟨1,9+d,s.count,0,0⟩],fr++[at0],at0+1)).2.1++[at0],(t5 s.body (d+1) (l++[⟨1,9+d,s.count,0,0⟩],fr++[at0],at0+1)).2.2):=by
 obtain⟨kd,tg,ix,vl,ct,bd,el⟩:=s
 have k:kd=4:=k
 rw[U5]
 simp only[k,if_true,cE0,cE5,cE9]
 rfl
abbrev w3C(l:List d9)(fr:List Int)(at0 d:Int)(s:c6):M0:=t5 s.body (d+1) (l++d7 s.value 0++[⟨9,0,0,0,0⟩],fr++cD6 (d7 s.value 0).length at0++[at0],at0+1)
abbrev w6C(l:List d9)(fr:List Int)(at0 d:Int)(s:c6):M0:=t5 s.els (d+1) (bM5 ((w3C l fr at0 d s).1++[⟨8,0,0,0,0⟩]) (l++d7 s.value 0).length ((((w3C l fr at0 d s).1++[(⟨8,0,0,0,0⟩:d9)]).length:Nat):Int),(w3C l fr at0 d s).2.1++[at0],(w3C l fr at0 d s).2.2)
theorem cm3(k:s.kind=3):U5 s d (l,fr,at0)=(cc3 (w6C l fr at0 d s).1 (w3C l fr at0 d s).1.length (((w6C l fr at0 d s).1.length:Nat):Int),(w6C l fr at0 d s).2.1,(w6C l fr at0 d s).2.2):=by
 obtain⟨kd,tg,ix,vl,ct,bd,el⟩:=s
 have k:kd=3:=k
 rw[U5]
 simp only[k,Int.reduceEq,if_false,J7,cE0,cE5,cE9,Nat.add_sub_cancel,cI3,List.replicate_one,w6C,w3C]
 rfl
theorem am6(ss:List c6)(d:Int)(x:M0):(t5 ss d x).1.length=x.1.length+aS8 ss:=(P4 ss d x).1
theorem cs7(h:l.length+(4+4*N5 s)<=5000000):l.length+C0 s.value<=5000000/\(0:Int)+C0 s.value<=2000000/\(l++d7 s.value 0).length+C0 s.index<=5000000/\(1:Int)+C0 s.index<=2000000/\(l++d7 s.value 0++d7 s.index 1).length+4<=5000010:=by
 have h1:=ab1 s.value 0
 have h2:=ab1 s.index 1
 have h3:N5 s=C0 s.index+C0 s.value+j6 s.body+j6 s.els:=by cases s;rfl
 simp only[cE0]
 omega
end
abbrev S6(s:c6)(l:List d9)(fr:List Int)(at0:Int)(d:Int):=t5 s.els (d+1) (((t5 s.body (d+1) (l++d7 s.value 0++[d9.mk 9 0 0 0 0],fr++cD6 (d7 s.value 0).length at0++[at0],at0+1)).fst++[d9.mk 8 0 0 0 0]).set (l++d7 s.value 0).length (d9.mk (((t5 s.body (d+1) (l++d7 s.value 0++[d9.mk 9 0 0 0 0],fr++cD6 (d7 s.value 0).length at0++[at0],at0+1)).fst++[d9.mk 8 0 0 0 0]).getD (l++d7 s.value 0).length cD4).op (((t5 s.body (d+1) (l++d7 s.value 0++[d9.mk 9 0 0 0 0],fr++cD6 (d7 s.value 0).length at0++[at0],at0+1)).fst++[d9.mk 8 0 0 0 0]).getD (l++d7 s.value 0).length cD4).a (((t5 s.body (d+1) (l++d7 s.value 0++[d9.mk 9 0 0 0 0],fr++cD6 (d7 s.value 0).length at0++[at0],at0+1)).fst++[d9.mk 8 0 0 0 0]).length:Int) (((t5 s.body (d+1) (l++d7 s.value 0++[d9.mk 9 0 0 0 0],fr++cD6 (d7 s.value 0).length at0++[at0],at0+1)).fst++[d9.mk 8 0 0 0 0]).getD (l++d7 s.value 0).length cD4).c (((t5 s.body (d+1) (l++d7 s.value 0++[d9.mk 9 0 0 0 0],fr++cD6 (d7 s.value 0).length at0++[at0],at0+1)).fst++[d9.mk 8 0 0 0 0]).getD (l++d7 s.value 0).length cD4).d),(t5 s.body (d+1) (l++d7 s.value 0++[d9.mk 9 0 0 0 0],fr++cD6 (d7 s.value 0).length at0++[at0],at0+1)).snd.fst++[at0],(t5 s.body (d+1) (l++d7 s.value 0++[d9.mk 9 0 0 0 0],fr++cD6 (d7 s.value 0).length at0++[at0],at0+1)).snd.snd)
abbrev F6(s:c6)(l:List d9)(fr:List Int)(at0:Int)(d:Int):=t5 s.body (d+1) (l++d7 s.value 0++[d9.mk 9 0 0 0 0],fr++cD6 (d7 s.value 0).length at0++[at0],at0+1)
abbrev az6(s:c6)(l:List d9)(fr:List Int)(at0:Int)(d:Int):=t5 s.body (d+1) (l++d7 s.value 0++[d9.mk 1 (9+d) s.count 0 0],fr++cD6 (d7 s.value 0).length at0++[at0],at0+1)
abbrev ak3(s:c6)(l:List d9)(fr:List Int)(at0:Int)(d:Int):=t5 s.body (d+1) (l++[d9.mk 1 (9+d) s.count 0 0],fr++[at0],at0+1)
abbrev Y2(s:c6)(l:List d9)(fr:List Int)(at0:Int)(d:Int):List It:=[.dead,.dead,dE s.index.kids,dE s.value.kids,dT s.body,dT s.els,.row 76 (D.instrs (U5 s d (l,fr,at0)).fst),.row 3 (D.ints (U5 s d (l,fr,at0)).snd.fst)]
abbrev bI1(s:c6)(l:List d9)(fr:List Int)(at0:Int)(d:Int):It:=.row 76 (D.instrs ((S6 s l fr at0 d).fst.set (F6 s l fr at0 d).fst.length (d9.mk ((S6 s l fr at0 d).fst.getD (F6 s l fr at0 d).fst.length cD4).op ((S6 s l fr at0 d).fst.length:Int) ((S6 s l fr at0 d).fst.getD (F6 s l fr at0 d).fst.length cD4).b ((S6 s l fr at0 d).fst.getD (F6 s l fr at0 d).fst.length cD4).c ((S6 s l fr at0 d).fst.getD (F6 s l fr at0 d).fst.length cD4).d)))
abbrev Q9:It:=.box [.v (.slice none 0 0),.v (.slice none 0 0),iA 0]
abbrev ag6(at0:Int):It:=.box [.ref 9,.ref 10,iA (at0+1)]
abbrev aZ4(s:c6)(fr:List Int)(at0:Int):It:=.row 3 (D.ints (fr++cD6 (d7 s.value 0).length at0++[at0]))
abbrev K6(s:c6)(r0:List It):List It:=.dead::.dead::dE s.index.kids::dE s.value.kids::dT s.body::dT s.els::r0
abbrev J2(at0:Int)(d:Int)(r0:List (Nat×AV)):List (Nat×AV):=(2,iA d)::(3,.ptr 6 0)::(4,.ptr 7 0)::(6,.ptr 8 0)::(7,iA at0)::r0
theorem ba7(nv na dd:Nat)(s:c6)(hh:G3 nv na s=true)(hbb:s.body.all (j9 nv na dd)=true)(hbe:s.els.all (j9 nv na dd)=true)
    (ih:∀(tt:List c6) (l:List d9) (fr:List Int) (at0 d:Int),tt.all (j9 nv na dd)=true->l.length+4*j6 tt<=5000000->fr.length=l.length->0<=d->d+dd<=100->0<=at0->at0+X8 tt<=5000000->j8.ok Tryz.prog (lrC l fr at0 tt d))
    (l:List d9) (fr:List Int) (at0 d:Int) (r1:l.length+(4+4*N5 s)<=5000000) (r2:fr.length=l.length) (r3:0<=d) (r4:d+(dd+1)<=100) (r5:0<=at0) (r6:at0+nS s<=5000000):j8.ok Tryz.prog (lqC l fr at0 s d):=by
  refine D9 130 Tryz.func182 [.row 76 (D.instrs l),.row 3 (D.ints fr),dE s.index.kids,dE s.value.kids,dT s.body,dT s.els] [(0,.agg [.ref 0,.ref 1,iA at0]),(1,sA s 2),(2,iA d)] fun G=>?_;have hn:=aA9 s;have hft:=cs7 r1
  have hsz:N5 s=C0 s.index+C0 s.value+j6 s.body+j6 s.els:=by cases s;rfl
  have hv:=ab1 s.value 0;refine wp_seq (j7 G f8 [0,1,2,3,4,5,6,14,22] [.row 76 (D.instrs l),.row 3 (D.ints fr),dE s.index.kids,dE s.value.kids,dT s.body,dT s.els,.box [.ref 0,.ref 1,iA at0],.box (sL s 2),Q9] [(2,iA d),(3,.ptr 6 0),(4,.ptr 7 0),(6,.ptr 8 0)] fun G=>b6 (wp_seq (l6 G f8 [(7,iA at0)] fun G=>b6 (wp_seq (R9 G f8 (rg 9) [.row 76 (D.instrs l),.row 3 (D.ints fr),dE s.index.kids,dE s.value.kids,dT s.body,dT s.els,.box [.ref 0,.ref 1,iA (at0+1)],.box (sL s 2),Q9] (J2 at0 d []) [wO (at0+1)] (o1 al) fun G=>b6 (wp_seq (wp_seq (l6 G f8 [(20,bA (s.kind !=4))] fun G=>b6 (rcN G (fun h0 q0=>?_) fun h0 q0=>?_)))))))))
  ·
   refine wp_skip (b6 (wp_seq (wp_seq (l6 G f8 [(27,iA s.kind)] fun G=>b6 (wp_block (wp_seq (C6 G f8 (J2 at0 d [(27,iA s.kind),(28,bA (s.kind==1))]) fun G=>b6 ?_)))))));cases h1:(s.kind==1)
   ·
    have q1:=ne_of_beq_false h1;refine rF G _ h1 (wp_seq (C6 G f8 (J2 at0 d [(27,iA s.kind),(36,bA (s.kind==5))]) fun G=>b6 ?_));cases h2:(s.kind==5)
    ·
     have q2:=ne_of_beq_false h2;refine rF G _ h2 (wp_seq (C6 G f8 (J2 at0 d [(27,iA s.kind),(48,bA (s.kind==2))]) fun G=>b6 ?_));cases h3:(s.kind==2)
     ·
      have q3:=ne_of_beq_false h3;refine rF G _ h3 (wp_seq (C6 G f8 (J2 at0 d [(61,bA (s.kind==3))]) fun G=>b6 ?_));cases h4:(s.kind==3)
      · have q4:=ne_of_beq_false h4;refine rF G _ h4 (wp_skip (m8 (b6 (wp_seq (H0 G f8 [(10,iA (9+d))] [wO ((9:Int)+d)] (o1 al) fun G=>b6 (wp_seq (j7 G (x6 6 [0,1] (I9 l fr (at0+1) at0 1 (9+d) s.count 0 0 al al)) [0,1,2,3,4,5,6,7,8,57,58] (K6 s [ag6 at0,.box (sL s 2),Q9,.row 76 (D.instrs (l++[d9.mk 1 (9+d) s.count 0 0])),.row 3 (D.ints (fr++[at0]))]) (J2 at0 d [(10,iA (9+d))]) fun G=>b6 (wp_seq (l6 G f8 [(11,iA ((l++[d9.mk 1 (9+d) s.count 0 0]).length:Int))] fun G=>b6 (wp_seq (R9 G (x6 5 [9,10,4] (ih s.body (l++[d9.mk 1 (9+d) s.count 0 0]) (fr++[at0]) (at0+1) (d+1) ai (by simp only[cE0,cF8,cE5,cE9,r2];have:=hft.2.2.2.2;simp only[cE0]at this;omega) (by have:=hft.2.2.2.2;simp only[cE0,cE5,cE9]at this ⊢;omega) al al al al)) [0,1,2,3,4,5,6,8,51,52] (K6 s [.box [.ref 8,.ref 9,iA (ak3 s l fr at0 d).snd.snd],Q9,.row 76 (D.instrs (ak3 s l fr at0 d).fst),.row 3 (D.ints (ak3 s l fr at0 d).snd.fst)]) [(3,.ptr 6 0),(6,.ptr 7 0),(7,iA at0),(10,iA (9+d)),(11,iA ((l++[d9.mk 1 (9+d) s.count 0 0]).length:Int))] [wO (d+1)] (o1 al) fun G=>b6 (wp_seq (j7 G (x6 5 [8,9] (I9 ((t5 s.body (d+1) (l++[d9.mk 1 (9+d) s.count 0 0],fr++[at0],at0+1)).fst) ((t5 s.body (d+1) (l++[d9.mk 1 (9+d) s.count 0 0],fr++[at0],at0+1)).snd.fst) ((t5 s.body (d+1) (l++[d9.mk 1 (9+d) s.count 0 0],fr++[at0],at0+1)).snd.snd) at0 10 (9+d) (((l++[d9.mk 1 (9+d) s.count 0 0]).length:Int)) 0 0 (by have:=(P4 s.body (d+1) (l++[⟨1,9+d,s.count,0,0⟩],fr++[at0],at0+1));have:=T2 s.body;simp only[cE0,cE5,cE9]at*;omega) (by have:=(P4 s.body (d+1) (l++[⟨1,9+d,s.count,0,0⟩],fr++[at0],at0+1));have:=T2 s.body;simp only[cE0,cE5,cE9]at*;omega))) [0,1,2,3,4,5,7,50,51] (K6 s [.box [.ref 7,.ref 8,iA (ak3 s l fr at0 d).snd.snd],.row 76 (D.instrs ((ak3 s l fr at0 d).fst++[d9.mk 10 (9+d) ((l++[d9.mk 1 (9+d) s.count 0 0]).length:Int) 0 0])),.row 3 (D.ints ((ak3 s l fr at0 d).snd.fst++[at0]))]) [(6,.ptr 6 0)] fun G=>b6 (wp_ret ?_))))))))))))));exact T9 (.agg [.ref 7,.ref 8,iA (t5 s.body (d+1) (l++[d9.mk 1 (9+d) s.count 0 0],fr++[at0],at0+1)).snd.snd]) G [0,1,2,3,4,5,7,8] (by have e1:((U5 s d (l,fr,at0)).snd.snd:Int)=((t5 s.body (d+1) (l++[d9.mk 1 (9+d) s.count 0 0],fr++[at0],at0+1)).snd.snd):=(by have h9:=congrArg (fun x:M0=>x.2.2) (cm4 (l:=l) (fr:=fr) (at0:=at0) (d:=d) (s:=s) al);exact h9);(first|rw[e1]|simp only[e1])<;>rfl) (by show _=mR [0,1,2,3,4,5,7,8] (Y2 s l fr at0 d);unfold Y2;have e1:((U5 s d (l,fr,at0)).fst:List d9)=((ak3 s l fr at0 d).fst++[d9.mk 10 (9+d) ((l++[d9.mk 1 (9+d) s.count 0 0]).length:Int) 0 0]):=(congrArg Prod.fst (cm4 al));have e2:((U5 s d (l,fr,at0)).snd.fst:List Int)=((ak3 s l fr at0 d).snd.fst++[at0]):=(congrArg (fun x:M0=>x.2.1) (cm4 al));(first|rw[e1,e2]|simp only[e1,e2])<;>rfl)
      have q4:=eq_of_beq h4;exact False.elim al
     have q3:=eq_of_beq h3;exact False.elim al
    have q2:=eq_of_beq h2;exact False.elim al
   have q1:=eq_of_beq h1;exact False.elim al
  refine j7 G (x6 4 [0,1,3] (bg6 s.value l fr (at0+1) at0 0 al al al ai)) [0,1,2,3,4,5,6,7,8,41,42] (K6 s [ag6 at0,.box (sL s 2),Q9,.row 76 (D.instrs (l++d7 s.value 0)),.row 3 (D.ints (fr++cD6 (d7 s.value 0).length at0))]) (J2 at0 d []) fun G=>b6 (wp_seq (wp_seq (l6 G f8 [(27,iA s.kind)] fun G=>b6 (wp_block (wp_seq (l6 G f8 [(28,bA (s.kind==1))] fun G=>b6 (V3 G (fun h5 q5=>?_) fun h5 q5=>?_)))))))
  ·
   refine wp_seq (l6 G f8 [(36,bA (s.kind==5))] fun G=>b6 (V3 G (fun h6 q6=>?_) fun h6 q6=>?_))
   ·
    refine wp_seq (l6 G f8 [(48,bA (s.kind==2))] fun G=>b6 (V3 G (fun h7 q7=>?_) fun h7 q7=>?_))
    ·
     refine wp_seq (l6 G f8 [(61,bA (s.kind==3))] fun G=>b6 (V3 G (fun h8 q8=>?_) fun h8 q8=>?_))
     · refine wp_skip (m8 (b6 (wp_seq (H0 G f8 [(10,iA (9+d))] [wO ((9:Int)+d)] (o1 al) fun G=>b6 (wp_seq (j7 G (x6 6 [9,10] (I9 (l++d7 s.value 0) (fr++cD6 (d7 s.value 0).length at0) (at0+1) at0 1 (9+d) s.count 0 0 al (by simp only[cE0,cF8,cE5,cE9,r2];have:=hft.2.2.2.2;simp only[cE0]at this;omega))) [0,1,2,3,4,5,6,7,8,59,60] (K6 s [ag6 at0,.box (sL s 2),Q9,.row 76 (D.instrs (l++d7 s.value 0++[d9.mk 1 (9+d) s.count 0 0])),aZ4 s fr at0]) (J2 at0 d [(10,iA (9+d))]) fun G=>b6 (wp_seq (l6 G f8 [(11,iA ((l++d7 s.value 0++[d9.mk 1 (9+d) s.count 0 0]).length:Int))] fun G=>b6 (wp_seq (R9 G (x6 5 [9,10,4] (ih s.body (l++d7 s.value 0++[d9.mk 1 (9+d) s.count 0 0]) (fr++cD6 (d7 s.value 0).length at0++[at0]) (at0+1) (d+1) ai (by simp only[cE0,cF8,cE5,cE9,r2];have:=hft.2.2.2.2;simp only[cE0]at this;omega) (by exact absurd (hh.symm.trans (ar4 al)) ak) al al al al)) [0,1,2,3,4,5,6,8,51,52] (K6 s [.box [.ref 8,.ref 9,iA (az6 s l fr at0 d).snd.snd],Q9,.row 76 (D.instrs (az6 s l fr at0 d).fst),.row 3 (D.ints (az6 s l fr at0 d).snd.fst)]) [(3,.ptr 6 0),(6,.ptr 7 0),(7,iA at0),(10,iA (9+d)),(11,iA ((l++d7 s.value 0++[d9.mk 1 (9+d) s.count 0 0]).length:Int))] [wO (d+1)] (o1 al) fun G=>b6 (wp_seq (j7 G (x6 5 [8,9] (I9 ((t5 s.body (d+1) (l++d7 s.value 0++[d9.mk 1 (9+d) s.count 0 0],fr++cD6 (d7 s.value 0).length at0++[at0],at0+1)).fst) ((t5 s.body (d+1) (l++d7 s.value 0++[d9.mk 1 (9+d) s.count 0 0],fr++cD6 (d7 s.value 0).length at0++[at0],at0+1)).snd.fst) ((t5 s.body (d+1) (l++d7 s.value 0++[d9.mk 1 (9+d) s.count 0 0],fr++cD6 (d7 s.value 0).length at0++[at0],at0+1)).snd.snd) at0 10 (9+d) (((l++d7 s.value 0++[d9.mk 1 (9+d) s.count 0 0]).length:Int)) 0 0 (by exact absurd (hh.symm.trans (ar4 al)) ak) (by exact absurd (hh.symm.trans (ar4 al)) ak))) [0,1,2,3,4,5,7,50,51] (K6 s [.box [.ref 7,.ref 8,iA (az6 s l fr at0 d).snd.snd],.row 76 (D.instrs ((az6 s l fr at0 d).fst++[d9.mk 10 (9+d) ((l++d7 s.value 0++[d9.mk 1 (9+d) s.count 0 0]).length:Int) 0 0])),.row 3 (D.ints ((az6 s l fr at0 d).snd.fst++[at0]))]) [(6,.ptr 6 0)] fun G=>b6 (wp_ret ?_)))))))))))));exact T9 (.agg [.ref 7,.ref 8,iA (t5 s.body (d+1) (l++d7 s.value 0++[d9.mk 1 (9+d) s.count 0 0],fr++cD6 (d7 s.value 0).length at0++[at0],at0+1)).snd.snd]) G [0,1,2,3,4,5,7,8] (by have e1:((U5 s d (l,fr,at0)).snd.snd:Int)=((t5 s.body (d+1) (l++d7 s.value 0++[d9.mk 1 (9+d) s.count 0 0],fr++cD6 (d7 s.value 0).length at0++[at0],at0+1)).snd.snd):=(by exact absurd (hh.symm.trans (ar4 al)) ak);(first|rw[e1]|simp only[e1])<;>rfl) (by show _=mR [0,1,2,3,4,5,7,8] (Y2 s l fr at0 d);unfold Y2;have e1:((U5 s d (l,fr,at0)).fst:List d9)=((t5 s.body (d+1) (l++d7 s.value 0++[d9.mk 1 (9+d) s.count 0 0],fr++cD6 (d7 s.value 0).length at0++[at0],at0+1)).fst++[d9.mk 10 (9+d) ((l++d7 s.value 0++[d9.mk 1 (9+d) s.count 0 0]).length:Int) 0 0]):=(by exact absurd (hh.symm.trans (ar4 al)) ak);have e2:((U5 s d (l,fr,at0)).snd.fst:List Int)=((t5 s.body (d+1) (l++d7 s.value 0++[d9.mk 1 (9+d) s.count 0 0],fr++cD6 (d7 s.value 0).length at0++[at0],at0+1)).snd.fst++[at0]):=(by exact absurd (hh.symm.trans (ar4 al)) ak);(first|rw[e1,e2]|simp only[e1,e2])<;>rfl)
     refine wp_seq (l6 G f8 [(8,iA ((l++d7 s.value 0).length:Int))] fun G=>b6 (wp_seq (j7 G (x6 3 [9,10] (I9 (l++d7 s.value 0) (fr++cD6 (d7 s.value 0).length at0) (at0+1) at0 9 0 0 0 0 al (by simp only[cE0,cF8,cE5,cE9,r2];have:=hft.2.2.2.2;simp only[cE0]at this;omega))) [0,1,2,3,4,5,6,7,8,35,36] (K6 s [ag6 at0,.box (sL s 2),Q9,.row 76 (D.instrs (l++d7 s.value 0++[d9.mk 9 0 0 0 0])),aZ4 s fr at0]) (J2 at0 d [(8,iA ((l++d7 s.value 0).length:Int))]) fun G=>b6 (wp_seq (R9 G (x6 5 [9,10,4] (ih s.body (l++d7 s.value 0++[d9.mk 9 0 0 0 0]) (fr++cD6 (d7 s.value 0).length at0++[at0]) (at0+1) (d+1) ai (by simp only[cE0,cF8,cE5,cE9,r2];have:=hft.2.2.2.2;simp only[cE0]at this;omega) ah al al al al)) [0,1,2,3,4,5,6,7,8,51,52] (K6 s [.box [.ref 9,.ref 10,iA (F6 s l fr at0 d).snd.snd],.box (sL s 2),Q9,.row 76 (D.instrs (F6 s l fr at0 d).fst),.row 3 (D.ints (F6 s l fr at0 d).snd.fst)]) (J2 at0 d [(8,iA ((l++d7 s.value 0).length:Int))]) [wO (d+1)] (o1 al) fun G=>b6 (wp_seq (l6 G f8 [(9,iA ((F6 s l fr at0 d).fst.length:Int))] fun G=>b6 (wp_seq (j7 G (x6 3 [9,10] (I9 ((t5 s.body (d+1) (l++d7 s.value 0++[d9.mk 9 0 0 0 0],fr++cD6 (d7 s.value 0).length at0++[at0],at0+1)).fst) ((t5 s.body (d+1) (l++d7 s.value 0++[d9.mk 9 0 0 0 0],fr++cD6 (d7 s.value 0).length at0++[at0],at0+1)).snd.fst) ((t5 s.body (d+1) (l++d7 s.value 0++[d9.mk 9 0 0 0 0],fr++cD6 (d7 s.value 0).length at0++[at0],at0+1)).snd.snd) at0 8 0 0 0 0 (by have h9:=P4 s.body (d+1) (l++d7 s.value 0++[⟨9,0,0,0,0⟩],fr++cD6 (d7 s.value 0).length at0++[at0],at0+1);have h8:=T2 s.body;simp only[cE0,cE5,cE9,cF8,cG4,r2]at h9 ⊢;omega) (by have h9:=P4 s.body (d+1) (l++d7 s.value 0++[⟨9,0,0,0,0⟩],fr++cD6 (d7 s.value 0).length at0++[at0],at0+1);have h8:=T2 s.body;simp only[cE0,cE5,cE9,cF8,cG4,r2]at h9 ⊢;omega))) [0,1,2,3,4,5,6,7,8,35,36] (K6 s [.box [.ref 9,.ref 10,iA (F6 s l fr at0 d).snd.snd],.box (sL s 2),Q9,.row 76 (D.instrs ((F6 s l fr at0 d).fst++[d9.mk 8 0 0 0 0])),.row 3 (D.ints ((F6 s l fr at0 d).snd.fst++[at0]))]) (J2 at0 d [(8,iA ((l++d7 s.value 0).length:Int)),(9,iA ((F6 s l fr at0 d).fst.length:Int))]) fun G=>b6 (wp_seq (R9 G f8 (rg 11) (K6 s [.box [.ref 9,.ref 10,iA (F6 s l fr at0 d).snd.snd],.box (sL s 2),Q9,.row 76 (D.instrs (((F6 s l fr at0 d).fst++[d9.mk 8 0 0 0 0]).set (l++d7 s.value 0).length (d9.mk (((F6 s l fr at0 d).fst++[d9.mk 8 0 0 0 0]).getD (l++d7 s.value 0).length cD4).op (((F6 s l fr at0 d).fst++[d9.mk 8 0 0 0 0]).getD (l++d7 s.value 0).length cD4).a (((F6 s l fr at0 d).fst++[d9.mk 8 0 0 0 0]).length:Int) (((F6 s l fr at0 d).fst++[d9.mk 8 0 0 0 0]).getD (l++d7 s.value 0).length cD4).c (((F6 s l fr at0 d).fst++[d9.mk 8 0 0 0 0]).getD (l++d7 s.value 0).length cD4).d))),.row 3 (D.ints ((F6 s l fr at0 d).snd.fst++[at0]))]) (J2 at0 d [(9,iA ((F6 s l fr at0 d).fst.length:Int))]) [(0:Int)<=((l++d7 s.value (0:Int)).length:Int),((l++d7 s.value (0:Int)).length:Int)<(((t5 s.body (d+1) (l++d7 s.value (0:Int)++[d9.mk (9:Int) (0:Int) (0:Int) (0:Int) (0:Int)],fr++cD6 (d7 s.value (0:Int)).length at0++[at0],at0+1)).fst++[d9.mk (8:Int) (0:Int) (0:Int) (0:Int) (0:Int)]).length:Int),(l++d7 s.value (0:Int)).length<((t5 s.body (d+1) (l++d7 s.value (0:Int)++[d9.mk (9:Int) (0:Int) (0:Int) (0:Int) (0:Int)],fr++cD6 (d7 s.value (0:Int)).length at0++[at0],at0+1)).fst++[d9.mk (8:Int) (0:Int) (0:Int) (0:Int) (0:Int)]).length] ⟨al,(by simp only[am6,cG4,cE0,cE5,cE9];omega),(by simp only[am6,cG4,cE0,cE5,cE9];omega),cF1⟩ fun G=>?_)))))))))))
     refine b6 (wp_seq (R9 G (x6 5 [9,10,5] (ih s.els (((t5 s.body (d+1) (l++d7 s.value 0++[d9.mk 9 0 0 0 0],fr++cD6 (d7 s.value 0).length at0++[at0],at0+1)).fst++[d9.mk 8 0 0 0 0]).set (l++d7 s.value 0).length (d9.mk (((t5 s.body (d+1) (l++d7 s.value 0++[d9.mk 9 0 0 0 0],fr++cD6 (d7 s.value 0).length at0++[at0],at0+1)).fst++[d9.mk 8 0 0 0 0]).getD (l++d7 s.value 0).length cD4).op (((t5 s.body (d+1) (l++d7 s.value 0++[d9.mk 9 0 0 0 0],fr++cD6 (d7 s.value 0).length at0++[at0],at0+1)).fst++[d9.mk 8 0 0 0 0]).getD (l++d7 s.value 0).length cD4).a (((t5 s.body (d+1) (l++d7 s.value 0++[d9.mk 9 0 0 0 0],fr++cD6 (d7 s.value 0).length at0++[at0],at0+1)).fst++[d9.mk 8 0 0 0 0]).length:Int) (((t5 s.body (d+1) (l++d7 s.value 0++[d9.mk 9 0 0 0 0],fr++cD6 (d7 s.value 0).length at0++[at0],at0+1)).fst++[d9.mk 8 0 0 0 0]).getD (l++d7 s.value 0).length cD4).c (((t5 s.body (d+1) (l++d7 s.value 0++[d9.mk 9 0 0 0 0],fr++cD6 (d7 s.value 0).length at0++[at0],at0+1)).fst++[d9.mk 8 0 0 0 0]).getD (l++d7 s.value 0).length cD4).d)) ((t5 s.body (d+1) (l++d7 s.value 0++[d9.mk 9 0 0 0 0],fr++cD6 (d7 s.value 0).length at0++[at0],at0+1)).snd.fst++[at0]) ((t5 s.body (d+1) (l++d7 s.value 0++[d9.mk 9 0 0 0 0],fr++cD6 (d7 s.value 0).length at0++[at0],at0+1)).snd.snd) (d+1) ai (by have h9:=P4 s.body (d+1) (l++d7 s.value 0++[⟨9,0,0,0,0⟩],fr++cD6 (d7 s.value 0).length at0++[at0],at0+1);have h8:=T2 s.body;simp only[cE0,cE5,cE9,cF8,cG4,r2]at h9 ⊢;omega) (by have h9:=P4 s.body (d+1) (l++d7 s.value 0++[⟨9,0,0,0,0⟩],fr++cD6 (d7 s.value 0).length at0++[at0],at0+1);have h8:=T2 s.body;simp only[cE0,cE5,cE9,cF8,cG4,r2]at h9 ⊢;omega) al al (by have h9:=am7 s.body (d+1) (l++d7 s.value 0++[⟨9,0,0,0,0⟩],fr++cD6 (d7 s.value 0).length at0++[at0],at0+1);simp only at h9;omega) (by have h9:=am7 s.body (d+1) (l++d7 s.value 0++[⟨9,0,0,0,0⟩],fr++cD6 (d7 s.value 0).length at0++[at0],at0+1);simp only at h9;omega))) [0,1,2,3,4,5,6,7,8,51,52] (K6 s [.box [.ref 9,.ref 10,iA (S6 s l fr at0 d).snd.snd],.box (sL s 2),Q9,.row 76 (D.instrs (S6 s l fr at0 d).fst),.row 3 (D.ints (S6 s l fr at0 d).snd.fst)]) (J2 at0 d [(9,iA ((F6 s l fr at0 d).fst.length:Int))]) [wO (d+1)] (o1 al) fun G=>b6 (wp_seq (R9 G f8 (rg 11) (K6 s [.box [.ref 9,.ref 10,iA (S6 s l fr at0 d).snd.snd],.box (sL s 2),Q9,bI1 s l fr at0 d,.row 3 (D.ints (S6 s l fr at0 d).snd.fst)]) (J2 at0 d []) [(0:Int)<=((t5 s.body (d+1) (l++d7 s.value (0:Int)++[d9.mk (9:Int) (0:Int) (0:Int) (0:Int) (0:Int)],fr++cD6 (d7 s.value (0:Int)).length at0++[at0],at0+1)).fst.length:Int),((t5 s.body (d+1) (l++d7 s.value (0:Int)++[d9.mk (9:Int) (0:Int) (0:Int) (0:Int) (0:Int)],fr++cD6 (d7 s.value (0:Int)).length at0++[at0],at0+1)).fst.length:Int)<((t5 s.els (d+1) (((t5 s.body (d+1) (l++d7 s.value (0:Int)++[d9.mk (9:Int) (0:Int) (0:Int) (0:Int) (0:Int)],fr++cD6 (d7 s.value (0:Int)).length at0++[at0],at0+1)).fst++[d9.mk (8:Int) (0:Int) (0:Int) (0:Int) (0:Int)]).set (l++d7 s.value (0:Int)).length (d9.mk (((t5 s.body (d+1) (l++d7 s.value (0:Int)++[d9.mk (9:Int) (0:Int) (0:Int) (0:Int) (0:Int)],fr++cD6 (d7 s.value (0:Int)).length at0++[at0],at0+1)).fst++[d9.mk (8:Int) (0:Int) (0:Int) (0:Int) (0:Int)]).getD (l++d7 s.value (0:Int)).length cD4).op (((t5 s.body (d+1) (l++d7 s.value (0:Int)++[d9.mk (9:Int) (0:Int) (0:Int) (0:Int) (0:Int)],fr++cD6 (d7 s.value (0:Int)).length at0++[at0],at0+1)).fst++[d9.mk (8:Int) (0:Int) (0:Int) (0:Int) (0:Int)]).getD (l++d7 s.value (0:Int)).length cD4).a (((t5 s.body (d+1) (l++d7 s.value (0:Int)++[d9.mk (9:Int) (0:Int) (0:Int) (0:Int) (0:Int)],fr++cD6 (d7 s.value (0:Int)).length at0++[at0],at0+1)).fst++[d9.mk (8:Int) (0:Int) (0:Int) (0:Int) (0:Int)]).length:Int) (((t5 s.body (d+1) (l++d7 s.value (0:Int)++[d9.mk (9:Int) (0:Int) (0:Int) (0:Int) (0:Int)],fr++cD6 (d7 s.value (0:Int)).length at0++[at0],at0+1)).fst++[d9.mk (8:Int) (0:Int) (0:Int) (0:Int) (0:Int)]).getD (l++d7 s.value (0:Int)).length cD4).c (((t5 s.body (d+1) (l++d7 s.value (0:Int)++[d9.mk (9:Int) (0:Int) (0:Int) (0:Int) (0:Int)],fr++cD6 (d7 s.value (0:Int)).length at0++[at0],at0+1)).fst++[d9.mk (8:Int) (0:Int) (0:Int) (0:Int) (0:Int)]).getD (l++d7 s.value (0:Int)).length cD4).d),(t5 s.body (d+1) (l++d7 s.value (0:Int)++[d9.mk (9:Int) (0:Int) (0:Int) (0:Int) (0:Int)],fr++cD6 (d7 s.value (0:Int)).length at0++[at0],at0+1)).snd.fst++[at0],(t5 s.body (d+1) (l++d7 s.value (0:Int)++[d9.mk (9:Int) (0:Int) (0:Int) (0:Int) (0:Int)],fr++cD6 (d7 s.value (0:Int)).length at0++[at0],at0+1)).snd.snd)).fst.length:Int),(t5 s.body (d+1) (l++d7 s.value (0:Int)++[d9.mk (9:Int) (0:Int) (0:Int) (0:Int) (0:Int)],fr++cD6 (d7 s.value (0:Int)).length at0++[at0],at0+1)).fst.length<(t5 s.els (d+1) (((t5 s.body (d+1) (l++d7 s.value (0:Int)++[d9.mk (9:Int) (0:Int) (0:Int) (0:Int) (0:Int)],fr++cD6 (d7 s.value (0:Int)).length at0++[at0],at0+1)).fst++[d9.mk (8:Int) (0:Int) (0:Int) (0:Int) (0:Int)]).set (l++d7 s.value (0:Int)).length (d9.mk (((t5 s.body (d+1) (l++d7 s.value (0:Int)++[d9.mk (9:Int) (0:Int) (0:Int) (0:Int) (0:Int)],fr++cD6 (d7 s.value (0:Int)).length at0++[at0],at0+1)).fst++[d9.mk (8:Int) (0:Int) (0:Int) (0:Int) (0:Int)]).getD (l++d7 s.value (0:Int)).length cD4).op (((t5 s.body (d+1) (l++d7 s.value (0:Int)++[d9.mk (9:Int) (0:Int) (0:Int) (0:Int) (0:Int)],fr++cD6 (d7 s.value (0:Int)).length at0++[at0],at0+1)).fst++[d9.mk (8:Int) (0:Int) (0:Int) (0:Int) (0:Int)]).getD (l++d7 s.value (0:Int)).length cD4).a (((t5 s.body (d+1) (l++d7 s.value (0:Int)++[d9.mk (9:Int) (0:Int) (0:Int) (0:Int) (0:Int)],fr++cD6 (d7 s.value (0:Int)).length at0++[at0],at0+1)).fst++[d9.mk (8:Int) (0:Int) (0:Int) (0:Int) (0:Int)]).length:Int) (((t5 s.body (d+1) (l++d7 s.value (0:Int)++[d9.mk (9:Int) (0:Int) (0:Int) (0:Int) (0:Int)],fr++cD6 (d7 s.value (0:Int)).length at0++[at0],at0+1)).fst++[d9.mk (8:Int) (0:Int) (0:Int) (0:Int) (0:Int)]).getD (l++d7 s.value (0:Int)).length cD4).c (((t5 s.body (d+1) (l++d7 s.value (0:Int)++[d9.mk (9:Int) (0:Int) (0:Int) (0:Int) (0:Int)],fr++cD6 (d7 s.value (0:Int)).length at0++[at0],at0+1)).fst++[d9.mk (8:Int) (0:Int) (0:Int) (0:Int) (0:Int)]).getD (l++d7 s.value (0:Int)).length cD4).d),(t5 s.body (d+1) (l++d7 s.value (0:Int)++[d9.mk (9:Int) (0:Int) (0:Int) (0:Int) (0:Int)],fr++cD6 (d7 s.value (0:Int)).length at0++[at0],at0+1)).snd.fst++[at0],(t5 s.body (d+1) (l++d7 s.value (0:Int)++[d9.mk (9:Int) (0:Int) (0:Int) (0:Int) (0:Int)],fr++cD6 (d7 s.value (0:Int)).length at0++[at0],at0+1)).snd.snd)).fst.length] ⟨al,(by simp only[am6,cG4,cE0,cE5,cE9];omega),(by simp only[am6,cG4,cE0,cE5,cE9];omega),cF1⟩ fun G=>?_))))
     refine b6 (wp_seq (j7 G f8 (rg 11) (K6 s [.box [.ref 9,.ref 10,iA (S6 s l fr at0 d).snd.snd],.box (sL s 2),.box [.ref 9,.ref 10,iA (S6 s l fr at0 d).snd.snd],bI1 s l fr at0 d,.row 3 (D.ints (S6 s l fr at0 d).snd.fst)]) (J2 at0 d []) fun G=>b6 (wp_ret (A5 (l7 ?_)))));exact T9 (.agg [.ref 9,.ref 10,iA (t5 s.els (d+1) (((t5 s.body (d+1) (l++d7 s.value 0++[d9.mk 9 0 0 0 0],fr++cD6 (d7 s.value 0).length at0++[at0],at0+1)).fst++[d9.mk 8 0 0 0 0]).set (l++d7 s.value 0).length (d9.mk (((t5 s.body (d+1) (l++d7 s.value 0++[d9.mk 9 0 0 0 0],fr++cD6 (d7 s.value 0).length at0++[at0],at0+1)).fst++[d9.mk 8 0 0 0 0]).getD (l++d7 s.value 0).length cD4).op (((t5 s.body (d+1) (l++d7 s.value 0++[d9.mk 9 0 0 0 0],fr++cD6 (d7 s.value 0).length at0++[at0],at0+1)).fst++[d9.mk 8 0 0 0 0]).getD (l++d7 s.value 0).length cD4).a (((t5 s.body (d+1) (l++d7 s.value 0++[d9.mk 9 0 0 0 0],fr++cD6 (d7 s.value 0).length at0++[at0],at0+1)).fst++[d9.mk 8 0 0 0 0]).length:Int) (((t5 s.body (d+1) (l++d7 s.value 0++[d9.mk 9 0 0 0 0],fr++cD6 (d7 s.value 0).length at0++[at0],at0+1)).fst++[d9.mk 8 0 0 0 0]).getD (l++d7 s.value 0).length cD4).c (((t5 s.body (d+1) (l++d7 s.value 0++[d9.mk 9 0 0 0 0],fr++cD6 (d7 s.value 0).length at0++[at0],at0+1)).fst++[d9.mk 8 0 0 0 0]).getD (l++d7 s.value 0).length cD4).d),(t5 s.body (d+1) (l++d7 s.value 0++[d9.mk 9 0 0 0 0],fr++cD6 (d7 s.value 0).length at0++[at0],at0+1)).snd.fst++[at0],(t5 s.body (d+1) (l++d7 s.value 0++[d9.mk 9 0 0 0 0],fr++cD6 (d7 s.value 0).length at0++[at0],at0+1)).snd.snd)).snd.snd]) G [0,1,2,3,4,5,9,10] (by have e1:((U5 s d (l,fr,at0)).snd.snd:Int)=((t5 s.els (d+1) (((t5 s.body (d+1) (l++d7 s.value 0++[d9.mk 9 0 0 0 0],fr++cD6 (d7 s.value 0).length at0++[at0],at0+1)).fst++[d9.mk 8 0 0 0 0]).set (l++d7 s.value 0).length (d9.mk (((t5 s.body (d+1) (l++d7 s.value 0++[d9.mk 9 0 0 0 0],fr++cD6 (d7 s.value 0).length at0++[at0],at0+1)).fst++[d9.mk 8 0 0 0 0]).getD (l++d7 s.value 0).length cD4).op (((t5 s.body (d+1) (l++d7 s.value 0++[d9.mk 9 0 0 0 0],fr++cD6 (d7 s.value 0).length at0++[at0],at0+1)).fst++[d9.mk 8 0 0 0 0]).getD (l++d7 s.value 0).length cD4).a (((t5 s.body (d+1) (l++d7 s.value 0++[d9.mk 9 0 0 0 0],fr++cD6 (d7 s.value 0).length at0++[at0],at0+1)).fst++[d9.mk 8 0 0 0 0]).length:Int) (((t5 s.body (d+1) (l++d7 s.value 0++[d9.mk 9 0 0 0 0],fr++cD6 (d7 s.value 0).length at0++[at0],at0+1)).fst++[d9.mk 8 0 0 0 0]).getD (l++d7 s.value 0).length cD4).c (((t5 s.body (d+1) (l++d7 s.value 0++[d9.mk 9 0 0 0 0],fr++cD6 (d7 s.value 0).length at0++[at0],at0+1)).fst++[d9.mk 8 0 0 0 0]).getD (l++d7 s.value 0).length cD4).d),(t5 s.body (d+1) (l++d7 s.value 0++[d9.mk 9 0 0 0 0],fr++cD6 (d7 s.value 0).length at0++[at0],at0+1)).snd.fst++[at0],(t5 s.body (d+1) (l++d7 s.value 0++[d9.mk 9 0 0 0 0],fr++cD6 (d7 s.value 0).length at0++[at0],at0+1)).snd.snd)).snd.snd):=(by have h9:=congrArg (fun x:M0=>x.2.2) (cm3 (l:=l) (fr:=fr) (at0:=at0) (d:=d) (s:=s) al);exact h9);(first|rw[e1]|simp only[e1])<;>rfl) (by show _=mR [0,1,2,3,4,5,9,10] (Y2 s l fr at0 d);unfold Y2;have h9:=cm3 (l:=l) (fr:=fr) (at0:=at0) (d:=d) (s:=s) al;rw[h9]<;>rfl)
    refine wp_seq (j7 G (x6 4 [9,10,2] (bg6 s.index (l++d7 s.value 0) (fr++cD6 (d7 s.value 0).length at0) (at0+1) at0 1 al al al (by simp only[cE0,cF8,r2];done))) [0,1,2,3,4,5,6,7,8,43,44] (K6 s [ag6 at0,.box (sL s 2),Q9,.row 76 (D.instrs (l++d7 s.value 0++d7 s.index 1)),.row 3 (D.ints (fr++cD6 (d7 s.value 0).length at0++cD6 (d7 s.index 1).length at0))]) (J2 at0 d []) fun G=>b6 (wp_seq (j7 G (x6 5 [9,10] (I9 (l++d7 s.value 0++d7 s.index 1) (fr++cD6 (d7 s.value 0).length at0++cD6 (d7 s.index 1).length at0) (at0+1) at0 5 s.target 1 0 0 al (by simp only[cE0,cF8,cE5,cE9,r2];have:=hft.2.2.2.2;simp only[cE0]at this;omega))) [0,1,2,3,4,5,6,7,8,9,10,51,52] (K6 s [ag6 at0,.box (sL s 2),.box [.ref 11,.ref 12,iA (at0+1)],.dead,.dead,.row 76 (D.instrs (l++d7 s.value 0++d7 s.index 1++[d9.mk 5 s.target 1 0 0])),.row 3 (D.ints (fr++cD6 (d7 s.value 0).length at0++cD6 (d7 s.index 1).length at0++[at0]))]) (J2 at0 d []) fun G=>b6 (wp_ret (A5 (l7 ?_))))));exact T9 (.agg [.ref 11,.ref 12,iA (at0+1)]) G [0,1,2,3,4,5,11,12] (by have e1:((U5 s d (l,fr,at0)).snd.snd:Int)=(at0+1):=(congrArg (fun x:M0=>x.2.2) (cm2 al));(first|rw[e1]|simp only[e1])<;>rfl) (by show _=mR [0,1,2,3,4,5,11,12] (Y2 s l fr at0 d);unfold Y2;have e1:((U5 s d (l,fr,at0)).fst:List d9)=(l++d7 s.value 0++d7 s.index 1++[d9.mk 5 s.target 1 0 0]):=(congrArg Prod.fst (cm2 al));have e2:((U5 s d (l,fr,at0)).snd.fst:List Int)=(fr++cD6 (d7 s.value 0).length at0++cD6 (d7 s.index 1).length at0++[at0]):=(congrArg (fun x:M0=>x.2.1) (cm2 al));(first|rw[e1,e2]|simp only[e1,e2])<;>rfl)
   refine wp_seq (j7 G (x6 3 [9,10] (I9 (l++d7 s.value 0) (fr++cD6 (d7 s.value 0).length at0) (at0+1) at0 11 0 0 0 0 al (by simp only[cE0,cF8,cE5,cE9,r2];have:=hft.2.2.2.2;simp only[cE0]at this;omega))) [0,1,2,3,4,5,6,7,8,35,36] (K6 s [ag6 at0,.box (sL s 2),Q9,.row 76 (D.instrs (l++d7 s.value 0++[d9.mk 11 0 0 0 0])),aZ4 s fr at0]) (J2 at0 d []) fun G=>b6 (wp_seq (j7 G (x6 5 [9,10] (I9 (l++d7 s.value 0++[d9.mk 11 0 0 0 0]) (fr++cD6 (d7 s.value 0).length at0++[at0]) (at0+1) at0 3 s.target 0 0 0 (by simp only[cE0,cF8,cE5,cE9,r2];have:=hft.2.2.2.2;simp only[cE0]at this;omega) (by simp only[cE0,cF8,cE5,cE9,r2];have:=hft.2.2.2.2;simp only[cE0]at this;omega))) [0,1,2,3,4,5,6,7,8,9,10,51,52] (K6 s [ag6 at0,.box (sL s 2),.box [.ref 11,.ref 12,iA (at0+1)],.dead,.dead,.row 76 (D.instrs (l++d7 s.value 0++[d9.mk 11 0 0 0 0]++[d9.mk 3 s.target 0 0 0])),.row 3 (D.ints (fr++cD6 (d7 s.value 0).length at0++[at0]++[at0]))]) (J2 at0 d []) fun G=>b6 (wp_ret (A5 (l7 ?_))))));exact T9 (.agg [.ref 11,.ref 12,iA (at0+1)]) G [0,1,2,3,4,5,11,12] (by have e1:((U5 s d (l,fr,at0)).snd.snd:Int)=(at0+1):=(congrArg (fun x:M0=>x.2.2) (cm5 al));(first|rw[e1]|simp only[e1])<;>rfl) (by show _=mR [0,1,2,3,4,5,11,12] (Y2 s l fr at0 d);unfold Y2;have e1:((U5 s d (l,fr,at0)).fst:List d9)=(l++d7 s.value 0++[d9.mk 11 0 0 0 0]++[d9.mk 3 s.target 0 0 0]):=(congrArg Prod.fst (cm5 al));have e2:((U5 s d (l,fr,at0)).snd.fst:List Int)=(fr++cD6 (d7 s.value 0).length at0++[at0]++[at0]):=(congrArg (fun x:M0=>x.2.1) (cm5 al));(first|rw[e1,e2]|simp only[e1,e2])<;>rfl)
  refine wp_seq (j7 G (x6 5 [9,10] (I9 (l++d7 s.value 0) (fr++cD6 (d7 s.value 0).length at0) (at0+1) at0 3 s.target 0 0 0 al (by simp only[cE0,cF8,cE5,cE9,r2];have:=hft.2.2.2.2;simp only[cE0]at this;omega))) [0,1,2,3,4,5,6,7,8,9,10,51,52] (K6 s [ag6 at0,.box (sL s 2),.box [.ref 11,.ref 12,iA (at0+1)],.dead,.dead,.row 76 (D.instrs (l++d7 s.value 0++[d9.mk 3 s.target 0 0 0])),aZ4 s fr at0]) (J2 at0 d []) fun G=>b6 (wp_ret (A5 (l7 ?_))));exact T9 (.agg [.ref 11,.ref 12,iA (at0+1)]) G [0,1,2,3,4,5,11,12] (by have e1:((U5 s d (l,fr,at0)).snd.snd:Int)=(at0+1):=(congrArg (fun x:M0=>x.2.2) (cm1 al));(first|rw[e1]|simp only[e1])<;>rfl) (by show _=mR [0,1,2,3,4,5,11,12] (Y2 s l fr at0 d);unfold Y2;have e1:((U5 s d (l,fr,at0)).fst:List d9)=(l++d7 s.value 0++[d9.mk 3 s.target 0 0 0]):=(congrArg Prod.fst (cm1 al));have e2:((U5 s d (l,fr,at0)).snd.fst:List Int)=(fr++cD6 (d7 s.value 0).length at0++[at0]):=(congrArg (fun x:M0=>x.2.1) (cm1 al));(first|rw[e1,e2]|simp only[e1,e2])<;>rfl)
section
variable{ss:List c6}{k:Nat}{d:Int}{l:List d9}{fr:List Int}{at0:Int}
theorem bB3(hk:k<ss.length):j6 (ss.take k)+(1+N5 (ss.getD k cD4))<=j6 ss:=by
 have h1:=z9 (ss.take (k+1)) (ss.drop (k+1))
 rw[List.take_append_drop,o0 _ _ hk,z9, <-m6 (d:=cD4) hk]at h1
 simp only[j6]at h1
 omega
theorem bO4(hk:k<ss.length):X8 (ss.take k)+nS (ss.getD k cD4)<=X8 ss:=by
 have h1:=ah2 (ss.take (k+1)) (ss.drop (k+1))
 rw[List.take_append_drop,o0 _ _ hk,ah2, <-m6 (d:=cD4) hk]at h1
 simp only[X8]at h1
 omega
theorem bU4(r1:l.length+4*j6 ss<=5000000)(hk:k<ss.length):(t5 (ss.take k) d (l,fr,at0)).1.length+(4+4*N5 (ss.getD k cD4))<=5000000:=by
 have h1:=bB3 hk
 have h2:=T2 (ss.take k)
 rw[am6]
 simp only
 omega
theorem b86(r2:fr.length=l.length):(t5 (ss.take k) d (l,fr,at0)).2.1.length=(t5 (ss.take k) d (l,fr,at0)).1.length:=by
 have h:=P4 (ss.take k) d (l,fr,at0)
 simp only at h
 omega
theorem bU6(r5:0<=at0):0<=(t5 (ss.take k) d (l,fr,at0)).2.2:=by
 have h:=am7 (ss.take k) d (l,fr,at0)
 simp only at h
 omega
theorem bU5(r6:at0+X8 ss<=5000000)(hk:k<ss.length):(t5 (ss.take k) d (l,fr,at0)).2.2+nS (ss.getD k cD4)<=5000000:=by
 have h:=am7 (ss.take k) d (l,fr,at0)
 have h1:=bO4 hk
 simp only at h
 omega
theorem cu8(hk:k<ss.length):(t5 (ss.take (k+1)) d (l,fr,at0)).1=(U5 (ss.getD k cD4) d (t5 (ss.take k) d (l,fr,at0))).1:=by rw[aQ3 hk]
theorem cu7(hk:k<ss.length):(t5 (ss.take (k+1)) d (l,fr,at0)).2.1=(U5 (ss.getD k cD4) d (t5 (ss.take k) d (l,fr,at0))).2.1:=by rw[aQ3 hk]
theorem cu6(hk:k<ss.length):(t5 (ss.take (k+1)) d (l,fr,at0)).2.2=(U5 (ss.getD k cD4) d (t5 (ss.take k) d (l,fr,at0))).2.2:=by rw[aQ3 hk]
theorem bF0(hk:ss.length<=k)(x:M0):t5 ss d x=t5 (ss.take k) d x:=by rw[cF0 hk]
end
theorem aV6(ss:List c6)(B:Int)(ih:∀(s:c6),s∈ss->∀(l:List d9) (fr:List Int) (at0 d:Int),l.length+(4+4*N5 s)<=5000000->fr.length=l.length->0<=d->d<=B->0<=at0->at0+nS s<=5000000->j8.ok Tryz.prog (lqC l fr at0 s d))
  (l:List d9) (fr:List Int) (at0 d:Int) (r1:l.length+4*j6 ss<=5000000) (r2:fr.length=l.length) (r3:0<=d) (r4:d<=B) (r5:0<=at0) (r6:at0+X8 ss<=5000000):j8.ok Tryz.prog (lrC l fr at0 ss d):=by
 refine D9 22 Tryz.func145 [.row 76 (D.instrs l),.row 3 (D.ints fr),dT ss] [(0,.agg [.ref 0,.ref 1,iA at0]),(1,.ref 2),(2,iA d)] fun G=>?_;have hl:=O2 ss;refine wp_seq (j7 G f8 [0,1,2,3,11] [.row 76 (D.instrs l),.row 3 (D.ints fr),dT ss,.box [.ref 0,.ref 1,iA at0],.box [.v (.slice none 0 0),.v (.slice none 0 0),iA 0]] [(1,.ref 2),(2,iA d),(3,.ptr 3 0),(6,.ptr 4 0)] fun G=>b6 (wp_seq (wp_seq (C6 G f8 [(1,.ref 2),(2,iA d),(3,.ptr 3 0),(6,.ptr 4 0),(7,iA 0)] fun G=>b6 (wp_block ?_)))));obtain⟨ρ,G⟩:=G.shift 0 5 [.dead,.row 3 (D.ints fr),dT ss,.box [.ref 5,.ref 1,iA at0],.box [.v (.slice none 0 0),.v (.slice none 0 0),iA 0],.row 76 (D.instrs l)] [(1,.ref 2),(2,iA d),(3,.ptr 3 0),(6,.ptr 4 0),(7,iA 0)];obtain⟨ρ,G⟩:=G.shift 1 6 [.dead,.dead,dT ss,.box [.ref 5,.ref 6,iA at0],.box [.v (.slice none 0 0),.v (.slice none 0 0),iA 0],.row 76 (D.instrs l),.row 3 (D.ints fr)] [(1,.ref 2),(2,iA d),(3,.ptr 3 0),(6,.ptr 4 0),(7,iA 0)];refine t9 (κ:=Nat) (fun k=>k<=ss.length) (fun k=>ss.length-k) (fun k=>[.dead,.dead,dT ss,.box [.ref 5,.ref 6,iA (t5 (ss.take k) d (l,fr,at0)).2.2],.box [.v (.slice none 0 0),.v (.slice none 0 0),iA 0],.row 76 (.instrs (t5 (ss.take k) d (l,fr,at0)).1),.row 3 (.ints (t5 (ss.take k) d (l,fr,at0)).2.1)]) (fun k=>[(1,.ref 2),(2,iA d),(3,.ptr 3 0),(6,.ptr 4 0),(7,iA k)]) 0 al (x7.at G _ _) ?_;clear G;intro k ρ a w hp G;replace G:=x7.at G [.dead,.dead,dT ss,.box [.ref 5,.ref 6,iA (t5 (cE3 k ss) d (l,fr,at0)).snd.snd],.box [.v (.slice none 0 0),.v (.slice none 0 0),iA 0],.row 76 (D.instrs (t5 (cE3 k ss) d (l,fr,at0)).fst),.row 3 (D.ints (t5 (cE3 k ss) d (l,fr,at0)).snd.fst)] [(1,.ref 2),(2,iA d),(3,.ptr 3 0),(6,.ptr 4 0),(7,iA k)];refine wp_seq (wp_seq (l6 G f8 [(11,bA (decide ((k:Int)<ss.length)))] fun G=>b6 (rcD G (fun h0 q0=>?_) fun h0 q0=>?_)))
 ·refine wp_exit (t4 (t4 (t3 (b6 (wp_seq (j7 G f8 [0,1,2,4,5,6] [.dead,.dead,dT ss,.box [.ref 4,.ref 5,iA (t5 (cE3 k ss) d (l,fr,at0)).snd.snd],.row 76 (D.instrs (t5 (cE3 k ss) d (l,fr,at0)).fst),.row 3 (D.ints (t5 (cE3 k ss) d (l,fr,at0)).snd.fst)] [(6,.ptr 3 0)] fun G=>b6 (wp_ret ?_)))))));exact T9 (.agg [.ref 4,.ref 5,iA (t5 (cE3 k ss) d (l,fr,at0)).snd.snd]) G [0,1,2,4,5] (by have e1:((t5 ss d (l,fr,at0)).snd.snd:Int)=((t5 (cE3 k ss) d (l,fr,at0)).snd.snd):=(congrArg (fun x:M0=>x.2.2) (bF0 al _));(first|rw[e1]|simp only[e1])<;>rfl) (by show _=mR [0,1,2,4,5] [.dead,.dead,dT ss,.row 76 (D.instrs (t5 ss d (l,fr,at0)).fst),.row 3 (D.ints (t5 ss d (l,fr,at0)).snd.fst)];have e1:((t5 ss d (l,fr,at0)).fst:List d9)=((t5 (cE3 k ss) d (l,fr,at0)).fst):=(congrArg Prod.fst (bF0 al _));have e2:((t5 ss d (l,fr,at0)).snd.fst:List Int)=((t5 (cE3 k ss) d (l,fr,at0)).snd.fst):=(congrArg (fun x:M0=>x.2.1) (bF0 al _));(first|rw[e1,e2]|simp only[e1,e2])<;>rfl)
 refine wp_skip (b6 (wp_seq (wp_block (K7 G (x6 6 [5,6,39,40,41,42] (ih (ss.getD k cD4) (af9 al) ((t5 (cE3 k ss) d (l,fr,at0)).fst) ((t5 (cE3 k ss) d (l,fr,at0)).snd.fst) ((t5 (cE3 k ss) d (l,fr,at0)).snd.snd) d (bU4 r1 al) (b86 r2) ai ai (bU6 r5) (bU5 r6 al))) [0,0,0,6,14,0,63,127] [0,1,2,3,4,55,56] [.dead,.dead,dT ss,.box [.ref 5,.ref 6,iA (U5 (ss.getD k cD4) d (t5 (cE3 k ss) d (l,fr,at0))).snd.snd],.box [.v (.slice none 0 0),.v (.slice none 0 0),iA 0],.row 76 (D.instrs (U5 (ss.getD k cD4) d (t5 (cE3 k ss) d (l,fr,at0))).fst),.row 3 (D.ints (U5 (ss.getD k cD4) d (t5 (cE3 k ss) d (l,fr,at0))).snd.fst)] [(1,.ref 2),(2,iA d),(3,.ptr 3 0),(6,.ptr 4 0),(7,iA k)] (iX k k ss.length []) (iK al cF1) fun G=>m8 (b6 (H0 G f8 [(7,iA ((k:Int)+1))] [wO ((k:Int)+1)] (o1 al) fun G=>b6 ?_))))));exact P7 G (k+1) al al (rg 7) (by have e1:((t5 (cE3 (k+1) ss) d (l,fr,at0)).snd.snd:Int)=((U5 (ss.getD k cD4) d (t5 (cE3 k ss) d (l,fr,at0))).snd.snd):=(cu6 al);have e2:((t5 (cE3 (k+1) ss) d (l,fr,at0)).fst:List d9)=((U5 (ss.getD k cD4) d (t5 (cE3 k ss) d (l,fr,at0))).fst):=(cu8 al);have e3:((t5 (cE3 (k+1) ss) d (l,fr,at0)).snd.fst:List Int)=((U5 (ss.getD k cD4) d (t5 (cE3 k ss) d (l,fr,at0))).snd.fst):=(cu7 al);(first|rw[e1,e2,e3]|simp only[e1,e2,e3])<;>rfl)
theorem bP7(nv na:Nat):∀(dd:Nat) (ss:List c6) (l:List d9) (fr:List Int) (at0 d:Int),ss.all (j9 nv na dd)=true->l.length+4*j6 ss<=5000000->fr.length=l.length->0<=d->d+dd<=100->0<=at0->at0+X8 ss<=5000000->j8.ok Tryz.prog (lrC l fr at0 ss d):=by
 intro dd
 induction dd with
 | zero =>
  intro ss l fr at0 d hs r1 r2 r3 r4 r5 r6
  have h0:ss=[]:=by
   cases ss with
   |nil=>rfl
   |cons a r=>simp[j9]at hs
  subst h0
  exact aV6 [] 100 (fun s hs=>by cases hs) l fr at0 d r1 r2 r3 al r5 r6
 |succ dd ih=>
  intro ss l fr at0 d hs r1 r2 r3 r4 r5 r6
  refine aV6 ss (100-(dd+1)) (fun s hm l fr at0 d q1 q2 q3 q4 q5 q6=>?_) l fr at0 d r1 r2 r3 al r5 r6
  have h:=cE2.1 hs s hm
  rw[V0,cD5,cD5]at h
  exact ba7 nv na dd s h.1 h.2.1 h.2.2 (fun tt l fr at0 d h1 h2 h3 h4 h5 h6 h7=>ih tt l fr at0 d h1 h2 h3 h4 h5 h6 h7) l fr at0 d q1 q2 q3 al q5 q6
abbrev aZ3:It:=.box [.v (.slice none 0 0),.v (.slice none 0 0),iA 0]
theorem bk9(ss:List c6)(B:Int)(ih:∀(s:c6),s∈ss->∀(l:List d9) (fr:List Int) (at0 d:Int),l.length+(4+4*N5 s)<=5000000->fr.length=l.length->0<=d->d<=B->0<=at0->at0+nS s<=5000000->j8.ok Tryz.prog (lqC l fr at0 s d))
  (d:Int) (r1:([]:List d9).length+4*j6 ss<=5000000) (r3:0<=d) (r4:d<=B) (r6:(0:Int)+X8 ss<=5000000):j8.ok Tryz.prog ⟨145,[.agg [.v (.slice none 0 0),.v (.slice none 0 0),iA 0],.ref 0,iA d],[dT ss],[dT ss,rN (t5 ss d ([],[],0)).1,rI (t5 ss d ([],[],0)).2.1],.agg [.ref 1,.ref 2,iA (t5 ss d ([],[],0)).2.2]⟩:=by
 refine D9 22 Tryz.func145 [dT ss] [(0,.agg [.v (.slice none 0 0),.v (.slice none 0 0),iA 0]),(1,.ref 0),(2,iA d)] fun G=>?_;have hl:=O2 ss;refine wp_seq (j7 G f8 [0,1,9] [dT ss,aZ3,aZ3] [(1,.ref 0),(2,iA d),(3,.ptr 1 0),(6,.ptr 2 0)] fun G=>b6 (wp_seq (wp_seq (C6 G f8 [(1,.ref 0),(2,iA d),(3,.ptr 1 0),(6,.ptr 2 0),(7,iA 0)] fun G=>b6 (wp_block ?_)))));obtain⟨ρ,G⟩:=G.nil 3 76 (.instrs []) 5 [dT ss,.box [.ref 3,.v (.slice none 0 0),iA 0],.box [.v (.slice none 0 0),.v (.slice none 0 0),iA 0]] [(1,.ref 0),(2,iA d),(3,.ptr 1 0),(6,.ptr 2 0),(7,iA 0)];obtain⟨ρ,G⟩:=G.nil 4 3 (.ints []) 1 [dT ss,.box [.ref 3,.ref 4,iA 0],.box [.v (.slice none 0 0),.v (.slice none 0 0),iA 0],.row 76 (D.instrs [])] [(1,.ref 0),(2,iA d),(3,.ptr 1 0),(6,.ptr 2 0),(7,iA 0)];refine t9 (κ:=Nat) (fun k=>k<=ss.length) (fun k=>ss.length-k) (fun k=>[dT ss,.box [.ref 3,.ref 4,iA (t5 (ss.take k) d ([],[],0)).2.2],.box [.v (.slice none 0 0),.v (.slice none 0 0),iA 0],.row 76 (.instrs (t5 (ss.take k) d ([],[],0)).1),.row 3 (.ints (t5 (ss.take k) d ([],[],0)).2.1)]) (fun k=>[(1,.ref 0),(2,iA d),(3,.ptr 1 0),(6,.ptr 2 0),(7,iA k)]) 0 al (x7.at G _ _) ?_;clear G;intro k ρ a w hp G;replace G:=x7.at G [dT ss,.box [.ref 3,.ref 4,iA (t5 (cE3 k ss) d ([],[],0)).snd.snd],aZ3,.row 76 (D.instrs (t5 (cE3 k ss) d ([],[],0)).fst),.row 3 (D.ints (t5 (cE3 k ss) d ([],[],0)).snd.fst)] [(1,.ref 0),(2,iA d),(3,.ptr 1 0),(6,.ptr 2 0),(7,iA k)];refine wp_seq (wp_seq (l6 G f8 [(11,bA (decide ((k:Int)<ss.length)))] fun G=>b6 (rcD G (fun h0 q0=>?_) fun h0 q0=>?_)))
 ·refine wp_exit (t4 (t4 (t3 (b6 (wp_seq (j7 G f8 [0,2,3,4] [dT ss,.box [.ref 2,.ref 3,iA (t5 (cE3 k ss) d ([],[],0)).snd.snd],.row 76 (D.instrs (t5 (cE3 k ss) d ([],[],0)).fst),.row 3 (D.ints (t5 (cE3 k ss) d ([],[],0)).snd.fst)] [(6,.ptr 1 0)] fun G=>b6 (wp_ret ?_)))))));exact T9 (.agg [.ref 2,.ref 3,iA (t5 (cE3 k ss) d ([],[],0)).snd.snd]) G [0,2,3] (by have e1:((t5 ss d ([],[],0)).snd.snd:Int)=((t5 (cE3 k ss) d ([],[],0)).snd.snd):=(congrArg (fun x:M0=>x.2.2) (bF0 al _));(first|rw[e1]|simp only[e1])<;>rfl) (by show _=mR [0,2,3] [dT ss,.row 76 (D.instrs (t5 ss d ([],[],0)).fst),.row 3 (D.ints (t5 ss d ([],[],0)).snd.fst)];have e1:((t5 ss d ([],[],0)).fst:List d9)=((t5 (cE3 k ss) d ([],[],0)).fst):=(congrArg Prod.fst (bF0 al _));have e2:((t5 ss d ([],[],0)).snd.fst:List Int)=((t5 (cE3 k ss) d ([],[],0)).snd.fst):=(congrArg (fun x:M0=>x.2.1) (bF0 al _));(first|rw[e1,e2]|simp only[e1,e2])<;>rfl)
 refine wp_skip (b6 (wp_seq (wp_block (K7 G (x6 6 [3,4,37,38,39,40] (ih (ss.getD k cD4) (af9 al) ((t5 (cE3 k ss) d ([],[],0)).fst) ((t5 (cE3 k ss) d ([],[],0)).snd.fst) ((t5 (cE3 k ss) d ([],[],0)).snd.snd) d (bU4 r1 al) (b86 rfl) ai ai (bU6 (Int.le_refl 0)) (bU5 r6 al))) [0,0,0,6,14,0,63,127] [0,1,2,53,54] [dT ss,.box [.ref 3,.ref 4,iA (U5 (ss.getD k cD4) d (t5 (cE3 k ss) d ([],[],0))).snd.snd],aZ3,.row 76 (D.instrs (U5 (ss.getD k cD4) d (t5 (cE3 k ss) d ([],[],0))).fst),.row 3 (D.ints (U5 (ss.getD k cD4) d (t5 (cE3 k ss) d ([],[],0))).snd.fst)] [(1,.ref 0),(2,iA d),(3,.ptr 1 0),(6,.ptr 2 0),(7,iA k)] (iX k k ss.length []) (iK al cF1) fun G=>m8 (b6 (H0 G f8 [(7,iA ((k:Int)+1))] [wO ((k:Int)+1)] (o1 al) fun G=>b6 ?_))))));exact P7 G (k+1) al al (rg 5) (by have e1:((t5 (cE3 (k+1) ss) d ([],[],0)).snd.snd:Int)=((U5 (ss.getD k cD4) d (t5 (cE3 k ss) d ([],[],0))).snd.snd):=(cu6 al);have e2:((t5 (cE3 (k+1) ss) d ([],[],0)).fst:List d9)=((U5 (ss.getD k cD4) d (t5 (cE3 k ss) d ([],[],0))).fst):=(cu8 al);have e3:((t5 (cE3 (k+1) ss) d ([],[],0)).snd.fst:List Int)=((U5 (ss.getD k cD4) d (t5 (cE3 k ss) d ([],[],0))).snd.fst):=(cu7 al);(first|rw[e1,e2,e3]|simp only[e1,e2,e3])<;>rfl)
theorem bp2(p:i6)(hp:n9 p=true)(hb:j6 p.body<=1048576):j8.ok Tryz.prog ⟨145,[.agg [.v (.slice none 0 0),.v (.slice none 0 0),iA 0],.ref 0,iA 0],[dT p.body],[dT p.body,rN (t5 p.body 0 ([],[],0)).1,rI (t5 p.body 0 ([],[],0)).2.1],.agg [.ref 1,.ref 2,iA (t5 p.body 0 ([],[],0)).2.2]⟩:=by
 simp only[n9,ai2,cD5,decide_eq_true_eq]at hp
 refine bk9 p.body 95 (fun s hm l fr at0 d q1 q2 q3 q4 q5 q6=>?_) 0 (by simp only[cE9];omega) al al (by have:=a31 p.body;omega)
 have h:=cE2.1 hp.1.2 s hm
 rw[V0,cD5,cD5]at h
 exact ba7 _ _ 4 s h.1 h.2.1 h.2.2 (fun tt l fr at0 d h1 h2 h3 h4 h5 h6 h7=>bP7 _ _ 4 tt l fr at0 d h1 h2 h3 h4 h5 h6 h7) l fr at0 d q1 q2 q3 al q5 q6
def aQ2(p:i6):M0:=((t5 p.body 0 ([],[],0)).1++[⟨13,0,0,0,0⟩],(t5 p.body 0 ([],[],0)).2.1++[-1],(t5 p.body 0 ([],[],0)).2.2)
def okC(p:i6):Bool:=n9 p&&decide ((aQ2 p).1.length<=400)
def L8(p:i6):M0:=if okC p=true then aQ2 p else([],[],0)
theorem a29{p:i6}(h:n9 p=false):okC p=false:=by unfold okC;rw[h];rfl
theorem bO2{p:i6}(h:¬(aQ2 p).1.length<=400):okC p=false:=by unfold okC;rw[decide_eq_false h,Bool.and_false]
theorem bO1{p:i6}(h1:n9 p=true)(h:(aQ2 p).1.length<=400):okC p=true:=by unfold okC;rw[decide_eq_true h,h1];rfl
theorem aB8{p:i6}(h:okC p=false):L8 p=([],[],0):=by unfold L8;rw[h];rfl
theorem bT5{p:i6}(h:okC p=true):L8 p=aQ2 p:=by unfold L8;rw[h];rfl
theorem bE7(p:i6)(hb:j6 p.body<=1048576):(t5 p.body 0 ([],[],0)).1.length<=5000000/\(t5 p.body 0 ([],[],0)).2.1.length<=5000000:=by
 have h:=P4 p.body 0 ([],[],0)
 have h1:=T2 p.body
 simp only[cE9]at h
 omega
abbrev az5(p:i6):List It:=[dI p.vars,dI p.arrays,dT p.body,.row 76 (D.instrs (L8 p).fst),.row 3 (D.ints (L8 p).snd.fst)]
abbrev aY5(p:i6)(r0:List It):List It:=.row 76 (D.instrs ((t5 p.body 0 ([],[],0)).fst++[d9.mk 13 0 0 0 0]))::.row 3 (D.ints ((t5 p.body 0 ([],[],0)).snd.fst++[-1]))::r0
theorem bg7(p:i6)(hb:j6 p.body<=1048576):j8.ok Tryz.prog ⟨93,[pA 0],pS p,pS p++[rN (L8 p).1,rI (L8 p).2.1],.tup [.agg [.ref 3,.ref 4,iA (L8 p).2.2],bA (okC p)]⟩:=by
  refine D9 22 Tryz.func93 [dI p.vars,dI p.arrays,dT p.body] [(0,pA 0)] fun G=>?_;have hcb:=bE7 p hb;refine wp_seq (j7 G f8 [0,1,2,3,11] [dI p.vars,dI p.arrays,dT p.body,.box (pL 0),.box [.v (.slice none 0 0),.v (.slice none 0 0),iA 0]] [(1,.ptr 3 0),(2,.ptr 4 0),(3,bA false)] fun G=>b6 (wp_seq (wp_seq (l6 G (x6 1 [0,1,2] (T3 p ai)) [(7,.v (.bool !n9 p))] fun G=>b6 ?_))));cases h0:(!n9 p)
  ·
   have q0:(n9 p)=true:=(Eq.mp (cG1 _) h0);refine rF G _ h0 (wp_skip (b6 (wp_seq (j7 G (x6 3 [2] (bp2 p ai ai)) [0,1,2,4,29,30,37] [dI p.vars,dI p.arrays,dT p.body,.box [.v (.slice none 0 0),.v (.slice none 0 0),iA 0],.row 76 (D.instrs (t5 p.body 0 ([],[],0)).fst),.row 3 (D.ints (t5 p.body 0 ([],[],0)).snd.fst),.box [.ref 4,.ref 5,iA (t5 p.body 0 ([],[],0)).snd.snd]] [(2,.ptr 3 0),(3,bA false),(4,.ptr 6 0)] fun G=>b6 (wp_seq (j7 G (x6 2 [4,5] (I9 ((t5 p.body 0 ([],[],0)).fst) ((t5 p.body 0 ([],[],0)).snd.fst) ((t5 p.body 0 ([],[],0)).snd.snd) (-1) 13 0 0 0 0 al al)) [0,1,2,3,6,23,24] (dI p.vars::dI p.arrays::dT p.body::.box [.v (.slice none 0 0),.v (.slice none 0 0),iA 0]::.box [.ref 5,.ref 6,iA (t5 p.body 0 ([],[],0)).snd.snd]::(aY5 p [])) [(2,.ptr 3 0),(3,bA false),(4,.ptr 4 0)] fun G=>b6 (wp_seq (wp_seq (l6 G f8 [(19,bA (decide ((((t5 p.body 0 ([],[],0)).fst++[d9.mk 13 0 0 0 0]).length:Int)>400)))] fun G=>b6 (rcD G (fun h1 q1=>?_) fun h1 q1=>?_))))))))))
   · refine wp_skip (b6 (wp_seq (j7 G f8 [0,1,2,3,5,6] (dI p.vars::dI p.arrays::dT p.body::.box [.ref 4,.ref 5,iA (t5 p.body 0 ([],[],0)).snd.snd]::(aY5 p [])) [(2,.ptr 3 0),(3,bA true)] fun G=>b6 (wp_ret ?_))));exact T9 (.tup [.agg [.ref 4,.ref 5,iA (t5 p.body 0 ([],[],0)).snd.snd],bA true]) G [0,1,2,4,5] (by have e1:((L8 p).snd.snd:Int)=((t5 p.body 0 ([],[],0)).snd.snd):=(by rw[bT5 (bO1 ab (by simp only[aQ2];omega))];rfl);have e2:(okC p:Bool)=(true):=(bO1 ab (by simp only[aQ2];omega));(first|rw[e1,e2]|simp only[e1,e2])<;>rfl) (by show _=mR [0,1,2,4,5] (az5 p);unfold az5;rw[bT5 (bO1 ab (by simp only[aQ2];omega))]<;>rfl)
   refine wp_seq (C6 G f8 [(2,.ptr 3 0),(3,bA false),(4,.ptr 4 0)] fun G=>b6 (wp_ret (l7 ?_)));obtain⟨ρ,G⟩:=G.nil 7 76 (.instrs []) 5 (dI p.vars::dI p.arrays::dT p.body::.box [.ref 7,.v (.slice none 0 0),iA 0]::.box [.ref 5,.ref 6,iA (t5 p.body 0 ([],[],0)).snd.snd]::(aY5 p [])) [(2,.ptr 3 0),(3,bA false),(4,.ptr 4 0)];obtain⟨ρ,G⟩:=G.nil 8 3 (.ints []) 1 (dI p.vars::dI p.arrays::dT p.body::.box [.ref 7,.ref 8,iA 0]::.box [.ref 5,.ref 6,iA (t5 p.body 0 ([],[],0)).snd.snd]::(aY5 p [.row 76 (D.instrs [])])) [(2,.ptr 3 0),(3,bA false),(4,.ptr 4 0)];exact T9 (.tup [.agg [.ref 7,.ref 8,iA 0],bA false]) G [0,1,2,7,8] (by have e1:((L8 p).snd.snd:Int)=(0):=(by rw[aB8 (bO2 (by simp only[aQ2];omega))];done);have e2:(okC p:Bool)=(false):=(bO2 (by simp only[aQ2];omega));(first|rw[e1,e2]|simp only[e1,e2])<;>rfl) (by show _=mR [0,1,2,7,8] (az5 p);unfold az5;rw[aB8 (bO2 (by simp only[aQ2];omega))]<;>rfl)
  have q0:(n9 p)=false:=(Eq.mp (cF7 _) h0);refine rT G _ h0 (wp_seq (C6 G f8 [(1,.ptr 3 0),(2,.ptr 4 0),(3,bA false)] fun G=>b6 (wp_ret (l7 ?_))));obtain⟨ρ,G⟩:=G.nil 5 76 (.instrs []) 5 [dI p.vars,dI p.arrays,dT p.body,.box (pL 0),.box [.ref 5,.v (.slice none 0 0),iA 0]] [(1,.ptr 3 0),(2,.ptr 4 0),(3,bA false)];obtain⟨ρ,G⟩:=G.nil 6 3 (.ints []) 1 [dI p.vars,dI p.arrays,dT p.body,.box (pL 0),.box [.ref 5,.ref 6,iA 0],.row 76 (D.instrs [])] [(1,.ptr 3 0),(2,.ptr 4 0),(3,bA false)];exact T9 (.tup [.agg [.ref 5,.ref 6,iA 0],bA false]) G [0,1,2,5,6] (by have e1:((L8 p).snd.snd:Int)=(0):=(by rw[aB8 (a29 ab)];done);have e2:(okC p:Bool)=(false):=(a29 ab);(first|rw[e1,e2]|simp only[e1,e2])<;>rfl) (by show _=mR [0,1,2,5,6] (az5 p);unfold az5;rw[aB8 (a29 ab)]<;>rfl)
theorem cp4{p:i6}(h:okC p=true):n9 p=true:=by
 unfold okC at h;simp only[cD5]at h;exact h.1
def cvP(p:i6):List Int:=if okC p=true then p.vars else []
def caP(p:i6):List Int:=if okC p=true then p.arrays else []
theorem cu0{p:i6}(h:okC p=true):cvP p=p.vars:=if_pos h
theorem ch0{p:i6}(h:okC p=false):cvP p=[]:=if_neg (by rw[h];decide)
theorem cu9{p:i6}(h:okC p=true):caP p=p.arrays:=if_pos h
theorem ch7{p:i6}(h:okC p=false):caP p=[]:=if_neg (by rw[h];decide)
abbrev aZ2(p:i6):List It:=[dI p.vars,dI p.arrays,dT p.body,.row 3 (D.ints (cvP p)),.row 3 (D.ints (caP p)),.row 76 (D.instrs (L8 p).fst)]
abbrev aY4(p:i6)(r0:List It):List It:=.row 76 (D.instrs (L8 p).fst)::.row 3 (D.ints (L8 p).snd.fst)::.box [.ref 5,.ref 6,iA (L8 p).snd.snd]::r0
theorem aC2(p:i6)(hb:p.size<=1048576):j8.ok Tryz.prog ⟨41,[pA 0],pS p,pS p++[rI (cvP p),rI (caP p),rN (L8 p).1],.tup [.agg [.ref 3,.ref 4,.ref 5],bA (okC p)]⟩:=by
 refine D9 25 Tryz.func41 [dI p.vars,dI p.arrays,dT p.body] [(0,pA 0)] fun G=>?_
 have hb1:p.vars.length<=1048576/\p.arrays.length<=1048576/\j6 p.body<=1048576:=by unfold i6.size at hb;omega
 refine wp_seq (j7 G f8 [0,1,2,3,11] [dI p.vars,dI p.arrays,dT p.body,.box (pL 0),.box [.v (.slice none 0 0),.v (.slice none 0 0),.v (.slice none 0 0)]] [(1,.ptr 3 0),(2,.ptr 4 0),(3,bA false)] fun G=>b6 (wp_seq (j7 G (x6 1 [0,1,2] (bg7 p al)) [0,1,2,3,4,13,14,45] (dI p.vars::dI p.arrays::dT p.body::.box (pL 0)::.box [.v (.slice none 0 0),.v (.slice none 0 0),.v (.slice none 0 0)]::(aY4 p [])) [(1,.ptr 3 0),(2,.ptr 4 0),(3,bA false),(4,.ptr 7 0),(5,bA (okC p))] fun G=>b6 (wp_seq (wp_seq (l6 G f8 [(12,.v (.bool !okC p))] fun G=>b6 ?_))))));cases h0:(!okC p)
 ·have q0:(okC p)=true:=(Eq.mp (cG1 _) h0);refine rF G _ h0 (wp_skip (b6 (wp_seq (K7 G f8 [0,0,2,7,0,0,32,127,0,256,1023,2047,4095] [0,1,2,4,5,32,64] [dI p.vars,dI p.arrays,dT p.body,.box [.ref 5,.ref 6,.ref 4],.row 76 (D.instrs (L8 p).fst),.row 3 (D.ints ([]++p.vars)),.row 3 (D.ints ([]++p.arrays))] [(2,.ptr 3 0),(3,bA true)] (aP ((0:Nat)+p.vars.length) 8 (aP ((0:Nat)+p.arrays.length) 8 [])) (aK al (aK al cF1)) fun G=>b6 (wp_ret ?_)))));exact T9 (.tup [.agg [.ref 5,.ref 6,.ref 4],bA true]) G [0,1,2,5,6,4] (by have e1:(okC p:Bool)=(true):=ai;(first|rw[e1]|simp only[e1])<;>rfl) (by show _=mR [0,1,2,5,6,4] (aZ2 p);unfold aZ2;have e2:(caP p:List Int)=([]++p.arrays):=(by rw[cu9 ab];rfl);rw[e2,cu0 ab]<;>rfl)
 have q0:(okC p)=false:=(Eq.mp (cF7 _) h0);refine rT G _ h0 (wp_seq (C6 G f8 [(1,.ptr 3 0),(2,.ptr 4 0),(3,bA false),(4,.ptr 7 0)] fun G=>b6 (wp_ret (l7 ?_))));obtain⟨ρ,G⟩:=G.nil 8 3 (.ints []) 1 (dI p.vars::dI p.arrays::dT p.body::.box (pL 0)::.box [.ref 8,.v (.slice none 0 0),.v (.slice none 0 0)]::(aY4 p [])) [(1,.ptr 3 0),(2,.ptr 4 0),(3,bA false),(4,.ptr 7 0)];obtain⟨ρ,G⟩:=G.nil 9 3 (.ints []) 1 (dI p.vars::dI p.arrays::dT p.body::.box (pL 0)::.box [.ref 8,.ref 9,.v (.slice none 0 0)]::(aY4 p [.row 3 (D.ints [])])) [(1,.ptr 3 0),(2,.ptr 4 0),(3,bA false),(4,.ptr 7 0)];obtain⟨ρ,G⟩:=G.nil 10 76 (.instrs []) 5 (dI p.vars::dI p.arrays::dT p.body::.box (pL 0)::.box (pL 8)::(aY4 p [.row 3 (D.ints []),.row 3 (D.ints [])])) [(1,.ptr 3 0),(2,.ptr 4 0),(3,bA false),(4,.ptr 7 0)];exact T9 (.tup [pA 8,bA false]) G [0,1,2,8,9,10] (by have e1:(okC p:Bool)=(false):=ai;(first|rw[e1]|simp only[e1])<;>rfl) (by show _=mR [0,1,2,8,9,10] (aZ2 p);unfold aZ2;have e2:(caP p:List Int)=([]):=(by rw[ch7 ab];done);have e3:((L8 p).fst:List d9)=([]):=(by rw[aB8 ab];done);rw[e2,e3,ch0 ab]<;>rfl)
def rqL(l:Int)(xs:List Int)(k:Nat):List Int:=(xs.take k).map (fun x=>m7 x l)++xs.drop k
theorem bv9(l:Int)(xs:List Int)(k:Nat):(rqL l xs k).length=xs.length:=by simp[rqL];omega
theorem bw0{l:Int}{xs:List Int}{k:Nat}(h:xs.length<=k):rqL l xs k=xs.map fun x=>m7 x l:=by
 unfold rqL
 rw[cF0 al,List.drop_eq_nil_of_le al,List.append_nil]
theorem cb9{l:Int}{xs:List Int}{k:Nat}(h:k<xs.length):(rqL l xs k).getD k 0=xs.getD k 0:=by
 unfold rqL
 simp only[cD7]
 rw[cH0 ah]
 simp[List.length_take,Nat.min_eq_left (Nat.le_of_lt h)]
theorem bv8{l:Int}{xs:List Int}{k:Nat}(h:k<xs.length):(rqL l xs k).set k (m7 ((rqL l xs k).getD k 0) l)=rqL l xs (k+1):=by
 rw[cb9 h]
 unfold rqL
 apply List.ext_getElem?
 intro j
 rw[cH9]
 by_cases e:k=j
 ·subst e
  rw[if_pos rfl,if_pos ah]
  rw[cF2 ah]
  simp[List.getElem?_take,h,cD7]
 rw[if_neg e]
 rcases cF9 j k with h1|h1
 ·rw[cF2 ah,cF2 ah]
  simp[List.getElem?_take,h1,show j<k+1 by omega]
 rw[cH0 ah,cH0 ah]
 simp only[List.length_map,List.length_take,List.getElem?_drop]
 congr 1
 omega
def n4(b:List UInt8)(j:Int):d8×Int:=(⟨(O9 b j).vars,(O9 b j).arrays,(clD b (R8 b j).2 (O9 b j).vars.length (O9 b j).arrays.length).1⟩,(clD b (R8 b j).2 (O9 b j).vars.length (O9 b j).arrays.length).2)
theorem bV6(b:List UInt8){j:Int}(hj:0<=j)(hj2:j<=10000000):j+2<=(R8 b j).2/\(R8 b j).2<=j+150000:=by
 have h1:=bA1 b hj hj2
 have h2:=bx8 b hj hj2
 omega
theorem bM9(b:List UInt8)(j:Int):(O9 b j).vars.length<=12/\(O9 b j).arrays.length<=2/\1<=(O9 b j).vars.length:=by
 have h:=af2 (bN1 b j)
 have:=(aA7 (bN1 b j)).2.2.1
 omega
theorem bU2(b:List UInt8){j:Int}(hj:0<=j)(hj2:j<=10000000):j+3<=(n4 b j).2/\(n4 b j).2<=j+150100/\(n4 b j).1.list.length<=12/\1<=(n4 b j).1.list.length:=by
 have h1:=bV6 b hj hj2
 have h2:=cC7 b (j:=(R8 b j).2) (O9 b j).vars.length (O9 b j).arrays.length al al
 have h3:=ce0 b (j:=(R8 b j).2) al al
 have e:(n4 b j).1.list.length=(clD b (R8 b j).2 (O9 b j).vars.length (O9 b j).arrays.length).1.length:=rfl
 have e2:(n4 b j).2=(clD b (R8 b j).2 (O9 b j).vars.length (O9 b j).arrays.length).2:=rfl
 rw[e,e2]
 omega
def J8(b:List UInt8):Nat->Int->i6×Int
 |0,j=>(W0 b j,(R8 b j).2+1)
 |n+1,j=>if(X9 (W0 b j) false).1=0/\0<(W0 b j).body.length then(W0 b j,(R8 b j).2+1)else J8 b n ((R8 b j).2+1)
theorem b30(b:List UInt8):∀(n:Nat) (j:Int),n<=3->0<=j->j+n*150001<=10000000->j<=(J8 b n j).2/\(J8 b n j).2<=j+(n+1)*150001/\(J8 b n j).1.size<=160000
 |0,j,_,hj,hj2=>by
  have h:=bV6 b hj al
  have h2:=bj6 b hj al
  refine⟨?_,?_,h2⟩<;>(show _<=_;simp only[J8];omega)
 |n+1,j,hn,hj,hj2=>by
  have h:=bV6 b hj al
  have h2:=bj6 b hj al
  have ih:=b30 b n ((R8 b j).2+1) al al al
  rw[J8]
  split
  ·exact⟨by show j<=(R8 b j).2+1;omega,by show(R8 b j).2+1<=_;omega,h2⟩
  exact⟨al,al,ih.2.2⟩
def Q8(b:List UInt8)(j:Int):Nat->Int
 |0=>j
 |i+1=>(R8 b (Q8 b j i)).2+1
theorem cs6(b:List UInt8){j:Int}(hj:0<=j)(hj2:j<=9000000):∀i:Nat,i<=3->j<=Q8 b j i/\Q8 b j i<=j+i*150001
 |0,_=>⟨Int.le_refl _,by simp[Q8]⟩
 |i+1,hi=>by
  have ih:=cs6 b hj hj2 i al
  have h:=bV6 b (j:=Q8 b j i) al al
  rw[Q8]
  omega
theorem ct4{b:List UInt8}{j:Int}{i:Nat}(hi:i<3)(h:J8 b 3 j=J8 b (3-i) (Q8 b j i))(hn:¬((X9 (W0 b (Q8 b j i)) false).1=0/\0<(W0 b (Q8 b j i)).body.length)):J8 b 3 j=J8 b (3-(i+1)) (Q8 b j (i+1)):=by
 rw[h,show 3-i=(3-(i+1))+1 by omega,J8,if_neg hn];rfl
theorem cf5{b:List UInt8}{j:Int}{i:Nat}(hi:i<3)(h:J8 b 3 j=J8 b (3-i) (Q8 b j i))(hn:(X9 (W0 b (Q8 b j i)) false).1=0/\0<(W0 b (Q8 b j i)).body.length):J8 b 3 j=(W0 b (Q8 b j i),(R8 b (Q8 b j i)).2+1):=by
 rw[h,show 3-i=(3-(i+1))+1 by omega,J8,if_pos hn]
theorem b28{b:List UInt8}{j:Int}{i:Nat}(hi:3<=i)(hi2:i<=3)(h:J8 b 3 j=J8 b (3-i) (Q8 b j i)):J8 b 3 j=(W0 b (Q8 b j i),(R8 b (Q8 b j i)).2+1):=by
 rw[h,show 3-i=0 by omega,J8]
theorem bz3{p:i6}(h:okL p=false):okC (J5 p)=false:=by
 rw[bx2 h];exact a29 (by decide+kernel)
def fnI(x:d9):d9:=if x.op=9\/x.op=4\/x.op=5 then⟨12,0,0,0,0⟩else x
def fnL(xs:List d9)(k:Nat):List d9:=(xs.take k).map fnI++xs.drop k
theorem by4(xs:List d9)(k:Nat):(fnL xs k).length=xs.length:=by simp[fnL];omega
theorem bo1{xs:List d9}{k:Nat}(h:k<xs.length):(fnL xs k).getD k cD4=xs.getD k cD4:=by
 unfold fnL
 simp only[cD7]
 rw[cH0 ah]
 simp[List.length_take,Nat.min_eq_left (Nat.le_of_lt h)]
theorem bf1{xs:List d9}{k:Nat}(h:k<xs.length):fnL xs (k+1)=(fnL xs k).set k (fnI (xs.getD k cD4)):=by
 unfold fnL
 apply List.ext_getElem?
 intro j
 rw[cH9]
 by_cases e:k=j
 ·subst e
  rw[if_pos rfl,if_pos ah]
  rw[cF2 ah]
  simp[List.getElem?_take,h,cD7]
 rw[if_neg e]
 rcases cF9 j k with h1|h1
 ·rw[cF2 ah,cF2 ah]
  simp[List.getElem?_take,h1,show j<k+1 by omega]
 rw[cH0 ah,cH0 ah]
 simp only[List.length_map,List.length_take,List.getElem?_drop]
 congr 1
 omega
theorem bR7{xs:List d9}{k:Nat}(h:k<xs.length)(ho:((fnL xs k).getD k cD4).op=9\/((fnL xs k).getD k cD4).op=4\/((fnL xs k).getD k cD4).op=5):fnL xs (k+1)=(fnL xs k).set k ⟨12,0,0,0,0⟩:=by
 rw[bf1 h]
 rw[bo1 h]at ho
 unfold fnI;rw[if_pos ho]
theorem cs4{xs:List d9}{k:Nat}(h:k<xs.length)(ho:¬(((fnL xs k).getD k cD4).op=9\/((fnL xs k).getD k cD4).op=4\/((fnL xs k).getD k cD4).op=5)):fnL xs (k+1)=fnL xs k:=by
 have ho2:=ho
 rw[bo1 h]at ho2
 rw[bf1 h]
 unfold fnI;rw[if_neg ho2]
 have hk:k<(fnL xs k).length:=by rw[by4];exact h
 rw[<-bo1 h,m6 hk];simp
theorem b26{xs:List d9}{k:Nat}(h:xs.length<=k):fnL xs k=xs.map fnI:=by
 unfold fnL
 rw[cF0 al,List.drop_eq_nil_of_le al,List.append_nil]
def ncD(b:List UInt8)(j:Int):d8×Int:=
 if pk b (n4 b j).2 3=0 then
  (if okC (J5 (J8 b 3 ((n4 b j).2+1)).1)=true/\(L8 (J5 (J8 b 3 ((n4 b j).2+1)).1)).1.length<=60 then
   (⟨cvP (J5 (J8 b 3 ((n4 b j).2+1)).1),caP (J5 (J8 b 3 ((n4 b j).2+1)).1),(L8 (J5 (J8 b 3 ((n4 b j).2+1)).1)).1⟩,(J8 b 3 ((n4 b j).2+1)).2)
  else((n4 b j).1,(J8 b 3 ((n4 b j).2+1)).2))
 else if pk b (n4 b j).2 3=1 then(⟨(n4 b j).1.vars.map fun x=>m7 x 1,(n4 b j).1.arrays.map fun x=>m7 x 1,(n4 b j).1.list.map fnI⟩,(n4 b j).2+1)
 else((n4 b j).1,(n4 b j).2+1)
theorem cg9(p:i6):(cvP p).length<=12/\(caP p).length<=2:=by
 cases h:okC p
 ·rw[ch0 h,ch7 h];simp
 rw[cu0 h,cu9 h]
 have:=af2 (cp4 h)
 omega
theorem cB5(b:List UInt8){j:Int}(hj:0<=j)(hj2:j<=5000000):j<=(ncD b j).2/\(ncD b j).2<=j+1000000/\(ncD b j).1.list.length<=60/\(ncD b j).1.vars.length<=12/\(ncD b j).1.arrays.length<=2:=by
 have h1:=bU2 b hj al
 have h2:=b30 b 3 ((n4 b j).2+1) (cE1 _) al al
 have h3:=bM9 b j
 have e1:(n4 b j).1.vars=(O9 b j).vars:=rfl
 have e2:(n4 b j).1.arrays=(O9 b j).arrays:=rfl
 have h4:=cg9 (J5 (J8 b 3 ((n4 b j).2+1)).1)
 unfold ncD
 split
 ·split
  ·rename_i h;exact⟨by simp only;omega,by simp only;omega,h.2,h4.1,h4.2⟩
  exact⟨by simp only;omega,by simp only;omega,by simp only;omega,by simp only[e1];omega,by simp only[e2];omega⟩
 split
 ·exact⟨by simp only;omega,by simp only;omega,by simp only[List.length_map];omega,by simp only[List.length_map,e1];omega,by simp only[List.length_map,e2];omega⟩
 exact⟨by simp only;omega,by simp only;omega,by simp only;omega,by simp only[e1];omega,by simp only[e2];omega⟩
abbrev tyC(b:List UInt8)(j:Int):j8:=⟨38,[.ptr 0 0],[.box [.ref 1,iA j],dY b],[.box [.ref 1,iA ((R8 b j).2+1)],dY b]++oP (W0 b j),oA 2⟩
section
variable{b:List UInt8}{j:Int}
theorem cx8(h:pk b (R8 b j).2 4=0):W0 b j=O9 b j:=if_pos h
theorem cx7(h:¬pk b (R8 b j).2 4=0)(h2:okI (O9 b j)=true):W0 b j=aj5 (O9 b j):=by rw[W0,if_neg h,if_pos h2]
theorem cx6(h:¬pk b (R8 b j).2 4=0)(h2:okI (O9 b j)=false):W0 b j=O9 b j:=by rw[W0,if_neg h,if_neg (by rw[h2];decide)]
end
abbrev aU2(b:List UInt8)(j:Int):List It:=[.box [.ref 1,iA ((R8 b j).snd+1)],dY b,.row 3 (D.ints (W0 b j).vars),.row 3 (D.ints (W0 b j).arrays),.tree (D.stmts (W0 b j).body)]
abbrev bs8:It:=.box [.v (.slice none 0 0),.v (.slice none 0 0),.v (.slice none 0 0)]
abbrev aJ8:It:=.box [.ref 3,.ref 4,.tref 5]
abbrev aT8(b:List UInt8)(j:Int)(r0:List It):List It:=.row 3 (D.ints (O9 b j).vars)::.row 3 (D.ints (O9 b j).arrays)::.tree (D.stmts (O9 b j).body)::r0
theorem aX8(b:List UInt8)(j:Int)(r0:0<=j)(r1:j<=10000000):j8.ok Tryz.prog (tyC b j):=by
  refine D9 20 Tryz.func38 [.box [.ref 1,iA j],dY b] [(0,.ptr 0 0)] fun G=>?_;have hk2:=bx8 b r0 r1;have hbd:=bA1 b r0 r1;have hsz:=bN0 b r0 r1;refine wp_seq (j7 G f8 [0,1,2] [.box [.ref 1,iA j],dY b,bs8] [(0,.ptr 0 0),(2,.ptr 2 0)] fun G=>b6 (wp_seq (j7 G (x6 1 [0,1] (aE5 b j ai ai)) [0,1,2,11,12,13,19] (.box [.ref 1,iA (R8 b j).snd]::dY b::bs8::(aT8 b j [aJ8])) [(0,.ptr 0 0),(2,.ptr 2 0),(3,.ptr 6 0)] fun G=>b6 (wp_seq (wp_seq (j7 G (x6 1 [0,1] (G0 b ((R8 b j).snd) 4 al al)) (rg 7) (.box [.ref 1,iA ((R8 b j).snd+1)]::dY b::bs8::(aT8 b j [aJ8])) [(2,.ptr 2 0),(3,.ptr 6 0),(10,bA (pk b (R8 b j).snd 4==0))] fun G=>b6 (V3 G (fun h0 q0=>?_) fun h0 q0=>?_)))))))
  ·
   refine wp_skip (b6 (wp_seq (j7 G (x6 1 [3,4,5] (j8.lend (aT0 (O9 b j) al) [.row 3,.row 3,.tree])) [0,1,2,3,4,5,6,15,16,17,47] (.box [.ref 1,iA ((R8 b j).snd+1)]::dY b::bs8::(aT8 b j [aJ8,.row 3 (D.ints (aj5 (O9 b j)).vars),.row 3 (D.ints (aj5 (O9 b j)).arrays),.tree (D.stmts (aj5 (O9 b j)).body),.box [.ref 7,.ref 8,.tref 9]])) [(2,.ptr 2 0),(3,.ptr 6 0),(4,.ptr 10 0),(5,bA (okI (O9 b j)))] fun G=>b6 (wp_seq (wp_seq (l6 G f8 [(17,bA (okI (O9 b j)))] fun G=>b6 (rcB G (fun h1=>?_) fun h1=>?_)))))))
   · refine wp_skip (b6 (wp_seq (j7 G f8 (rg 6) (.box [.ref 1,iA ((R8 b j).snd+1)]::dY b::aJ8::(aT8 b j [])) [(2,.ptr 2 0)] fun G=>b6 (wp_ret ?_))));exact G7 G [0,1,3,4,5] (by show _=mR [0,1,3,4,5] (aU2 b j);unfold aU2;rw[cx6 al ab]<;>rfl)
   refine wp_seq (j7 G f8 (rg 10) (.box [.ref 1,iA ((R8 b j).snd+1)]::dY b::.box [.ref 7,.ref 8,.tref 9]::(aT8 b j [aJ8,.row 3 (D.ints (aj5 (O9 b j)).vars),.row 3 (D.ints (aj5 (O9 b j)).arrays),.tree (D.stmts (aj5 (O9 b j)).body)])) [(2,.ptr 2 0),(3,.ptr 6 0)] fun G=>b6 (wp_ret (l7 ?_)));exact G7 G [0,1,7,8,9] (by show _=mR [0,1,7,8,9] (aU2 b j);unfold aU2;rw[cx7 al ab]<;>rfl)
  refine wp_seq (j7 G f8 (rg 7) (.box [.ref 1,iA ((R8 b j).snd+1)]::dY b::aJ8::(aT8 b j [aJ8])) [(2,.ptr 2 0),(3,.ptr 6 0)] fun G=>b6 (wp_ret (l7 ?_)));exact G7 G [0,1,3,4,5] (by show _=mR [0,1,3,4,5] (aU2 b j);unfold aU2;rw[cx8 al]<;>rfl)
abbrev fpC(b:List UInt8)(j:Int):j8:=⟨70,[.ptr 0 0],[.box [.ref 1,iA j],dY b],[.box [.ref 1,iA (J8 b 3 j).2],dY b]++oP (J8 b 3 j).1,oA 2⟩
theorem bR9{b:List UInt8}{j:Int}{i:Nat}(hi:i<3)(h:J8 b 3 j=J8 b (3-i) (Q8 b j i))(hn:¬((X9 ⟨(W0 b (Q8 b j i)).vars,(W0 b (Q8 b j i)).arrays,(W0 b (Q8 b j i)).body⟩ false).1=0/\0<(W0 b (Q8 b j i)).body.length)):i+1<=3/\J8 b 3 j=J8 b (3-(i+1)) (Q8 b j (i+1)):=⟨hi,ct4 hi h hn⟩
theorem b29{b:List UInt8}{j:Int}{i:Nat}(hi:i<3)(h:J8 b 3 j=J8 b (3-i) (Q8 b j i))(hn:(X9 ⟨(W0 b (Q8 b j i)).vars,(W0 b (Q8 b j i)).arrays,(W0 b (Q8 b j i)).body⟩ false).1=0/\0<(W0 b (Q8 b j i)).body.length):J8 b 3 j=(W0 b (Q8 b j i),(R8 b (Q8 b j i)).2+1):=cf5 hi h hn
theorem cf6{b:List UInt8}{j:Int}{i:Nat}(hi:i<3)(h:J8 b 3 j=J8 b (3-i) (Q8 b j i))(hn:¬((X9 (W0 b (Q8 b j i)) false).1=0/\0<(W0 b (Q8 b j i)).body.length)):i+1<=3/\J8 b 3 j=J8 b (3-(i+1)) (Q8 b j (i+1)):=bR9 hi h hn
theorem tyb(b:List UInt8){j:Int}(h:0<=j)(h2:j<=10000000):j6 (W0 b j).body<=1048576/\(W0 b j).body.length<=1048576:=by
 have h1:=bj6 b h h2
 have h3:=O2 (W0 b j).body
 unfold i6.size at h1;omega
abbrev bs7(b:List UInt8)(j:Int):List It:=[.box [.ref 1,iA (J8 b 3 j).snd],dY b,.row 3 (D.ints (J8 b 3 j).fst.vars),.row 3 (D.ints (J8 b 3 j).fst.arrays),.tree (D.stmts (J8 b 3 j).fst.body)]
abbrev a82:It:=.box [.v (.slice none 0 0),.v (.slice none 0 0),.v (.slice none 0 0)]
theorem aE4(b:List UInt8)(j:Int)(r0:0<=j)(r1:j<=9000000):j8.ok Tryz.prog (fpC b j):=by
  refine D9 29 Tryz.func70 [.box [.ref 1,iA j],dY b] [(0,.ptr 0 0)] fun G=>?_;refine wp_seq (j7 G f8 [0,1,2] [.box [.ref 1,iA j],dY b,a82] [(0,.ptr 0 0),(2,.ptr 2 0)] fun G=>b6 (wp_seq (wp_seq (C6 G f8 [(0,.ptr 0 0),(2,.ptr 2 0),(3,iA 0)] fun G=>b6 (wp_block ?_)))));refine t9 (κ:=Nat) (fun i=>i<=3/\J8 b 3 j=J8 b (3-i) (Q8 b j i)) (fun i=>3-i) (fun i=>[.box [.ref 1,iA (Q8 b j i)],dY b,a82]) (fun i=>[(0,.ptr 0 0),(2,.ptr 2 0),(3,iA i)]) 0 (⟨cG8 _,rfl⟩) (x7.at G _ _) ?_;clear G;intro i ρ a w hp G;have hp:=hp;have hfj:=cs6 b r0 r1 i hp.1;have htb:=tyb b (j:=Q8 b j i) al al;refine wp_seq (wp_seq (l6 G f8 [(8,bA (decide ((i:Int)<3)))] fun G=>b6 (rcD G (fun h0 q0=>?_) fun h0 q0=>?_)))
  · refine wp_exit (t4 (t4 (t3 (b6 (wp_seq (j7 G (x6 1 [0,1] (aX8 b (Q8 b j i) al al)) [0,1,2,11,12,13] [.box [.ref 1,iA ((R8 b (Q8 b j i)).snd+1)],dY b,.box [.ref 3,.ref 4,.tref 5],.row 3 (D.ints (W0 b (Q8 b j i)).vars),.row 3 (D.ints (W0 b (Q8 b j i)).arrays),.tree (D.stmts (W0 b (Q8 b j i)).body)] [(2,.ptr 2 0)] fun G=>b6 (wp_ret ?_)))))));exact G7 G [0,1,3,4,5] (by show _=mR [0,1,3,4,5] (bs7 b j);unfold bs7;rw[b28 (b:=b) (j:=j) (i:=i) al al hp.2]<;>rfl)
  refine wp_skip (b6 (wp_seq (wp_block (wp_seq (j7 G (x6 1 [0,1] (aX8 b (Q8 b j i) al al)) [0,1,2,11,12,13,19] [.box [.ref 1,iA ((R8 b (Q8 b j i)).snd+1)],dY b,a82,.row 3 (D.ints (W0 b (Q8 b j i)).vars),.row 3 (D.ints (W0 b (Q8 b j i)).arrays),.tree (D.stmts (W0 b (Q8 b j i)).body),.box [.ref 3,.ref 4,.tref 5]] [(0,.ptr 0 0),(2,.ptr 2 0),(3,iA i),(4,.ptr 6 0)] fun G=>b6 (wp_seq (l6 G (x6 1 [3,4,5] (j8.lend (aa5 ((W0 b (Q8 b j i)).vars) ((W0 b (Q8 b j i)).arrays) ((W0 b (Q8 b j i)).body) al) [.row 3,.row 3,.tree])) [(5,iA (X9 (i6.mk (W0 b (Q8 b j i)).vars (W0 b (Q8 b j i)).arrays (W0 b (Q8 b j i)).body) false).fst)] fun G=>b6 (wp_seq ?_))))))));cases h1:((X9 (i6.mk (W0 b (Q8 b j i)).vars (W0 b (Q8 b j i)).arrays (W0 b (Q8 b j i)).body) false).fst==0)
  · have q1:=ne_of_beq_false h1;refine l6 G (H2 (fc h1 fz) (us [(3,6,0),(1007,1007,0)])) [(25,bA false)] fun G=>b6 (rF G false aj (wp_skip (m8 (b6 (R9 G f8 [0,1,2] [.box [.ref 1,iA ((R8 b (Q8 b j i)).snd+1)],dY b,a82] [(0,.ptr 0 0),(2,.ptr 2 0),(3,iA ((i:Int)+1))] [wO ((i:Int)+1)] (o1 al) fun G=>b6 ?_)))));exact P7 G (i+1) (bR9 al hp.2 al) al [0,1,2]
  have q1:=eq_of_beq h1;refine l6 G (H2 (fc h1 fz) (us [(3,6,0),(1007,1007,0)])) [(25,bA (decide (((W0 b (Q8 b j i)).body.length:Int)>0)))] fun G=>b6 (rcD G (fun h2 q2=>?_) fun h2 q2=>?_)
  · refine wp_skip (m8 (b6 (R9 G f8 [0,1,2] [.box [.ref 1,iA ((R8 b (Q8 b j i)).snd+1)],dY b,a82] [(0,.ptr 0 0),(2,.ptr 2 0),(3,iA ((i:Int)+1))] [wO ((i:Int)+1)] (o1 al) fun G=>b6 ?_)));exact P7 G (i+1) (cf6 al hp.2 al) al [0,1,2]
  refine wp_seq (j7 G f8 (rg 6) [.box [.ref 1,iA ((R8 b (Q8 b j i)).snd+1)],dY b,.box [.ref 3,.ref 4,.tref 5],.row 3 (D.ints (W0 b (Q8 b j i)).vars),.row 3 (D.ints (W0 b (Q8 b j i)).arrays),.tree (D.stmts (W0 b (Q8 b j i)).body)] [(0,.ptr 0 0),(2,.ptr 2 0),(3,iA i)] fun G=>b6 (wp_ret (A5 (l7 (l7 (A5 (l7 ?_)))))));exact G7 G [0,1,3,4,5] (by show _=mR [0,1,3,4,5] (bs7 b j);unfold bs7;rw[b29 (b:=b) (j:=j) (i:=i) al hp.2 al]<;>rfl)
theorem j8.dupPost{P:Program}{f:FuncId}{args:List AV}{pre S:List It}{d:D}{res res':AV}{i:Nat}(hc:j8.ok P ⟨f,args,pre,S,res⟩)(hi:S[i]? =some (.dat d))(hl:pre.length<=S.length)
  (hS:S.all (fun x=>X4 S.length x.ids)=true) (hr:∀ρ:Nat->Value,ρ S.length=ρ i->res'.val ρ=res.val ρ) (hg:X4 S.length res.ids=true):j8.ok P ⟨f,args,pre,S++[.dat d],res'⟩:=by
 intro ι φ ψ w0 w F ρ M
 refine(hc ι φ ψ w0 w F ρ M).mono ?_
 rintro x w' ⟨ρ1,h1,rfl,M1⟩
 have hi':t2 S i=.dat d:=by simp[t2,hi]
 have hlt:i<S.length:=(cE7.1 hi).1
 have hinv:Inv (t2 S) ρ1 [S.length]:=fun ρ' h j=>by
  by_cases hj:j<S.length
  ·refine It.res_congr _ (fun k hk=>h k ?_) (.inr (.inr (h j ah)))
   have h1:=E3 (cE2.1 hS (S[j]) (cF3 hj)) k (by simpa[t2,cD7,cD8 hj]using hk)
   simp;omega
  rw[show t2 S j=.none by simp only[t2,cD7,cF6 (Nat.le_of_not_lt hj)];rfl];rfl
 obtain⟨ρ2,h3,M2,h4⟩:=M1.newDat (id:=S.length) (by simp[t2]) hinv (M1.datAt hi')
 have e:t0 (t2 S) [(S.length,.dat d)]=t2 (S++[.dat d]):=by
  funext j
  simp only[t0,t2,cD7]
  by_cases hj:j=S.length
  ·subst hj;simp
  rw[if_neg hj]
  by_cases hj2:j<S.length
  ·rw[cF2 hj2]
  rw[cF6 al,cF6 ah]
 rw[e]at M2
 have hρ:ρ2 i=ρ1 i:=h3 i ah
 refine⟨ρ2,fun k hk=>by
  have hk:k<pre.length:=hk
  rw[h3 k ah];exact h1 k hk,?_,M2⟩
 rw[hr ρ2 (by rw[<-h4,hρ])]
 exact congrArg _ (AV.val_congr res fun k hk=>by
  have:=E3 hg k hk
  exact h3 k ah).symm
abbrev nlA:AV:=.v (.slice none 0 0)
abbrev qT(l:List c6):It:=.row 98 (.stmts l)
abbrev qI(l:List Int):It:=.row 3 (.ints l)
theorem bl1(vs ars:List Int)(d:Nat)(ih:∀(e:c7),i7 vs.length ars.length d e=true->j8.ok Tryz.prog (P1 139 [.agg [.ref 0,.ref 1,nlA],eA e 2] ([dI vs,dI ars]++eS e) (iA (j5 vs ars d e))))
    (e:c7) (he:i7 vs.length ars.length (d+1) e=true):j8.ok Tryz.prog (P1 139 [.agg [.ref 0,.ref 1,nlA],eA e 2] ([dI vs,dI ars]++eS e) (iA (j5 vs ars (d+1) e))):=by
  refine D9 42 Tryz.func139 [dI vs,dI ars,dE e.kids] [(0,.agg [.ref 0,.ref 1,.v (.slice none 0 0)]),(1,eA e 2)] fun G=>?_;refine wp_seq (j7 G f8 [0,1,2,3,11] [dI vs,dI ars,dE e.kids,.box [.ref 0,.ref 1,.v (.slice none 0 0)],.box (eL e 2)] [(2,.ptr 3 0),(3,.ptr 4 0),(4,iA 0)] fun G=>b6 (wp_seq (l6 G f8 [(5,iA 0)] fun G=>b6 (wp_seq (wp_seq (l6 G f8 [(8,iA e.kind)] fun G=>b6 (wp_block (wp_seq (l6 G f8 [(9,bA (e.kind==2))] fun G=>b6 (V3 G (fun h0 q0=>?_) fun h0 q0=>?_))))))))))
  ·
   refine wp_seq (l6 G f8 [(17,bA (e.kind==3))] fun G=>b6 (V3 G (fun h1 q1=>?_) fun h1 q1=>?_))
   ·
    refine wp_skip (m8 (b6 (wp_seq (wp_seq (C6 G f8 [(2,.ptr 3 0),(3,.ptr 4 0),(4,iA 0),(5,iA 0),(6,iA 0)] fun G=>b6 (wp_block ?_))))));refine t9 (κ:=Nat) (fun k=>k<=e.kids.length) (fun k=>e.kids.length-k) (fun k=>[dI vs,dI ars,dE e.kids,.box [.ref 0,.ref 1,.v (.slice none 0 0)],.box (eL e 2)]) (fun k=>[(2,.ptr 3 0),(3,.ptr 4 0),(4,iA 0),(5,iA (F8 vs ars d 0 e.kids k)),(6,iA k)]) 0 al (x7.at G _ _) ?_;clear G;intro k ρ a w hp G;have hlen:e.kids.length<=9223372036854775807:=G.len 2 (d:=.exprs e.kids) aj;refine wp_seq (wp_seq (C6 G f8 [(2,.ptr 3 0),(3,.ptr 4 0),(4,iA 0),(5,iA (F8 vs ars d 0 e.kids k)),(6,iA k),(29,bA (decide ((k:Int)<e.kids.length)))] fun G=>b6 (rcD G (fun h2 q2=>?_) fun h2 q2=>?_)))
    · refine wp_exit (t4 (t4 (t3 (b6 (wp_seq (j7 G f8 [0,1,2] [dI vs,dI ars,dE e.kids] [(4,iA (F8 vs ars d 0 e.kids k))] fun G=>b6 (wp_ret ?_)))))));exact rxI (F8 vs ars d 0 e.kids k) G [0,1,2] (af7 al (by simp[aF5,h0,q0,h1,q1,h2,q2];done))
    refine wp_skip (b6 (wp_seq (wp_block (aj3 G (x6 7 [0,1,53] (ih (e.kids.getD k cD4) (ab4 he al))) [0,0,0,4,0,28,60,126,255,511] [(5,iA (m7 (F8 vs ars d 0 e.kids k) (j5 vs ars d (e.kids.getD k cD4))))] (iX k k e.kids.length []) (iK al cF1) fun G=>m8 (b6 (H0 G f8 [(6,iA ((k:Int)+1))] [wO ((k:Int)+1)] (o1 al) fun G=>b6 ?_))))));exact P7 G (k+1) al al (rg 5) (ht:=by have e1:(F8 vs ars d 0 e.kids (k+1):Int)=(m7 (F8 vs ars d 0 e.kids k) (j5 vs ars d (e.kids.getD k cD4))):=(ab0 al);(first|rw[e1]|simp only[e1])<;>rfl)
   refine H0 G f8 [(5,iA (ars.getD e.value.toNat 0))] [(0:Int)<=e.value,e.value<(ars.length:Int),e.value.toNat<ars.length] ⟨((aA5 he ai).1),((aA5 he ai).2.1),((aA5 he ai).2.2),cF1⟩ fun G=>m8 (b6 (wp_seq (wp_seq (C6 G f8 [(2,.ptr 3 0),(3,.ptr 4 0),(4,iA 0),(5,iA (ars.getD e.value.toNat 0)),(6,iA 0)] fun G=>b6 (wp_block ?_)))));refine t9 (κ:=Nat) (fun k=>k<=e.kids.length) (fun k=>e.kids.length-k) (fun k=>[dI vs,dI ars,dE e.kids,.box [.ref 0,.ref 1,.v (.slice none 0 0)],.box (eL e 2)]) (fun k=>[(2,.ptr 3 0),(3,.ptr 4 0),(4,iA 0),(5,iA (F8 vs ars d (ars.getD e.value.toNat 0) e.kids k)),(6,iA k)]) 0 al (x7.at G _ _) ?_;clear G;intro k ρ a w hp G;have hlen:e.kids.length<=9223372036854775807:=G.len 2 (d:=.exprs e.kids) aj;refine wp_seq (wp_seq (C6 G f8 [(2,.ptr 3 0),(3,.ptr 4 0),(4,iA 0),(5,iA (F8 vs ars d (ars.getD e.value.toNat 0) e.kids k)),(6,iA k),(29,bA (decide ((k:Int)<e.kids.length)))] fun G=>b6 (rcD G (fun h3 q3=>?_) fun h3 q3=>?_)))
   · refine wp_exit (t4 (t4 (t3 (b6 (wp_seq (j7 G f8 [0,1,2] [dI vs,dI ars,dE e.kids] [(4,iA (F8 vs ars d (ars.getD e.value.toNat 0) e.kids k))] fun G=>b6 (wp_ret ?_)))))));exact rxI (F8 vs ars d (ars.getD e.value.toNat 0) e.kids k) G [0,1,2] (af7 al (by simp[aF5,h0,q0,h1,q1,h3,q3];done))
   refine wp_skip (b6 (wp_seq (wp_block (aj3 G (x6 7 [0,1,53] (ih (e.kids.getD k cD4) (ab4 he al))) [0,0,0,4,0,28,60,126,255,511] [(5,iA (m7 (F8 vs ars d (ars.getD e.value.toNat 0) e.kids k) (j5 vs ars d (e.kids.getD k cD4))))] (iX k k e.kids.length []) (iK al cF1) fun G=>m8 (b6 (H0 G f8 [(6,iA ((k:Int)+1))] [wO ((k:Int)+1)] (o1 al) fun G=>b6 ?_))))));exact P7 G (k+1) al al (rg 5) (ht:=by have e1:(F8 vs ars d (ars.getD e.value.toNat 0) e.kids (k+1):Int)=(m7 (F8 vs ars d (ars.getD e.value.toNat 0) e.kids k) (j5 vs ars d (e.kids.getD k cD4))):=(ab0 al);(first|rw[e1]|simp only[e1])<;>rfl)
  refine H0 G f8 [(5,iA (vs.getD e.value.toNat 0))] [(0:Int)<=e.value,e.value<(vs.length:Int),e.value.toNat<vs.length] ⟨((aA4 he ai).1),((aA4 he ai).2.1),((aA4 he ai).2.2),cF1⟩ fun G=>m8 (b6 (wp_seq (wp_seq (C6 G f8 [(2,.ptr 3 0),(3,.ptr 4 0),(4,iA 0),(5,iA (vs.getD e.value.toNat 0)),(6,iA 0)] fun G=>b6 (wp_block ?_)))));refine t9 (κ:=Nat) (fun k=>k<=e.kids.length) (fun k=>e.kids.length-k) (fun k=>[dI vs,dI ars,dE e.kids,.box [.ref 0,.ref 1,.v (.slice none 0 0)],.box (eL e 2)]) (fun k=>[(2,.ptr 3 0),(3,.ptr 4 0),(4,iA 0),(5,iA (F8 vs ars d (vs.getD e.value.toNat 0) e.kids k)),(6,iA k)]) 0 al (x7.at G _ _) ?_;clear G;intro k ρ a w hp G;have hlen:e.kids.length<=9223372036854775807:=G.len 2 (d:=.exprs e.kids) aj;refine wp_seq (wp_seq (C6 G f8 [(2,.ptr 3 0),(3,.ptr 4 0),(4,iA 0),(5,iA (F8 vs ars d (vs.getD e.value.toNat 0) e.kids k)),(6,iA k),(29,bA (decide ((k:Int)<e.kids.length)))] fun G=>b6 (rcD G (fun h4 q4=>?_) fun h4 q4=>?_)))
  · refine wp_exit (t4 (t4 (t3 (b6 (wp_seq (j7 G f8 [0,1,2] [dI vs,dI ars,dE e.kids] [(4,iA (F8 vs ars d (vs.getD e.value.toNat 0) e.kids k))] fun G=>b6 (wp_ret ?_)))))));exact rxI (F8 vs ars d (vs.getD e.value.toNat 0) e.kids k) G [0,1,2] (af7 al (by simp[aF5,h0,q0,h4,q4];done))
  refine wp_skip (b6 (wp_seq (wp_block (aj3 G (x6 7 [0,1,53] (ih (e.kids.getD k cD4) (ab4 he al))) [0,0,0,4,0,28,60,126,255,511] [(5,iA (m7 (F8 vs ars d (vs.getD e.value.toNat 0) e.kids k) (j5 vs ars d (e.kids.getD k cD4))))] (iX k k e.kids.length []) (iK al cF1) fun G=>m8 (b6 (H0 G f8 [(6,iA ((k:Int)+1))] [wO ((k:Int)+1)] (o1 al) fun G=>b6 ?_))))));exact P7 G (k+1) al al (rg 5) (ht:=by have e1:(F8 vs ars d (vs.getD e.value.toNat 0) e.kids (k+1):Int)=(m7 (F8 vs ars d (vs.getD e.value.toNat 0) e.kids k) (j5 vs ars d (e.kids.getD k cD4))):=(ab0 al);(first|rw[e1]|simp only[e1])<;>rfl)
theorem aX2(vs ars:List Int):∀(d:Nat) (e:c7),i7 vs.length ars.length d e=true->j8.ok Tryz.prog (P1 139 [.agg [.ref 0,.ref 1,nlA],eA e 2] ([dI vs,dI ars]++eS e) (iA (j5 vs ars d e)))
 |0,_,h=>by simp[i7]at h
 |d+1,e,h=>bl1 vs ars d (aX2 vs ars d) e h
theorem ac5(vs ars:List Int)(ky vy:Int)(ks:List c7)(h:i7 vs.length ars.length 5 ⟨ky,vy,ks⟩=true):j8.ok Tryz.prog (P1 139 [.agg [.ref 0,.ref 1,nlA],.agg [iA ky,iA vy,.ref 2]] [dI vs,dI ars,dE ks] (iA (j5 vs ars 5 ⟨ky,vy,ks⟩))):=aX2 vs ars 5 ⟨ky,vy,ks⟩ h
theorem M7(n:Int):j8.ok Tryz.prog ⟨178,[iA n],[],[dE []],.agg [iA 1,iA n,.ref 0]⟩:=by
 refine D9 5 Tryz.func178 [] [(0,iA n)] fun G=>?_;refine wp_seq (j7 G f8 [0] [.box [iA 0,iA 0,.v (.slice none 0 0)]] [(0,iA n),(2,.ptr 0 0)] fun G=>b6 (wp_seq (j7 G f8 [0] [.box [iA 1,iA n,.v (.slice none 0 0)]] [(2,.ptr 0 0)] fun G=>b6 (wp_ret ?_))));obtain⟨ρ,G⟩:=G.nil 1 0 (.exprs []) 9 [.box [iA 1,iA n,.ref 1]] [(2,.ptr 0 0)];obtain⟨ρ,G⟩:=G.frz [.no,.row 0] [.box [iA 1,iA n,.ref 1],dE []] [(2,.ptr 0 0)];exact G7 G [1]
theorem ap4(n:Int):j8.ok Tryz.prog ⟨138,[iA n],[],[dE []],.agg [iA 2,iA n,.ref 0]⟩:=by
 refine D9 5 Tryz.func138 [] [(0,iA n)] fun G=>?_;refine wp_seq (j7 G f8 [0] [.box [iA 0,iA 0,.v (.slice none 0 0)]] [(0,iA n),(2,.ptr 0 0)] fun G=>b6 (wp_seq (j7 G f8 [0] [.box [iA 2,iA n,.v (.slice none 0 0)]] [(2,.ptr 0 0)] fun G=>b6 (wp_ret ?_))));obtain⟨ρ,G⟩:=G.nil 1 0 (.exprs []) 9 [.box [iA 2,iA n,.ref 1]] [(2,.ptr 0 0)];obtain⟨ρ,G⟩:=G.frz [.no,.row 0] [.box [iA 2,iA n,.ref 1],dE []] [(2,.ptr 0 0)];exact G7 G [1]
theorem ag1(k:Int)(ks:List c7):j8.ok Tryz.prog ⟨179,[iA k,.ref 0],[.row 96 (.exprs ks)],[dE ks],.agg [iA k,iA 0,.ref 0]⟩:=by
 refine D9 8 Tryz.func179 [.row 96 (D.exprs ks)] [(0,iA k),(1,.ref 0)] fun G=>?_;refine wp_seq (j7 G f8 [0,1] [.row 96 (D.exprs ks),.box [iA 0,iA 0,.v (.slice none 0 0)]] [(0,iA k),(1,.ref 0),(4,.ptr 1 0)] fun G=>b6 (wp_seq (j7 G f8 [0,1] [.row 96 (D.exprs ks),.box [iA k,iA 0,.ref 0]] [(4,.ptr 1 0)] fun G=>b6 (wp_ret ?_))));obtain⟨ρ,G⟩:=G.frz [.row 96] [dE ks,.box [iA k,iA 0,.ref 0]] [(4,.ptr 1 0)];exact G7 G [0]
theorem ay3(n ky vy:Int)(ks:List c7):j8.ok Tryz.prog ⟨142,[iA n,.agg [iA ky,iA vy,.ref 0]],[dE ks],[dE ks,dE [⟨ky,vy,ks⟩]],.agg [iA 3,iA n,.ref 1]⟩:=by
 refine D9 9 Tryz.func142 [dE ks] [(0,iA n),(1,.agg [iA ky,iA vy,.ref 0])] fun G=>?_;refine wp_seq (j7 G f8 [0,1,9] [dE ks,.box [iA ky,iA vy,.ref 0],.box [iA 0,iA 0,.v (.slice none 0 0)]] [(0,iA n),(3,.ptr 1 0),(4,.ptr 2 0)] fun G=>b6 (wp_seq (j7 G f8 [0,2,19] [dE ks,.box [iA 3,iA n,.ref 2],.row 96 (D.exprs ([c7.mk ky vy ks]++[]))] [(4,.ptr 1 0)] fun G=>b6 (wp_ret ?_))));obtain⟨ρ,G⟩:=G.frz [.no,.no,.row 96] [dE ks,.box [iA 3,iA n,.ref 2],dE ([c7.mk ky vy ks]++[])] [(4,.ptr 1 0)];exact G7 G [0,2]
theorem bz9(ky vy:Int)(ks:List c7)(k:Int):j8.ok Tryz.prog ⟨180,[.agg [iA ky,iA vy,.ref 0],iA k],[dE ks],[dE ks,dE (aj6 ⟨ky,vy,ks⟩ k).kids],.agg [iA 9,iA 0,.ref 1]⟩:=by
 refine D9 13 Tryz.func180 [dE ks] [(0,.agg [iA ky,iA vy,.ref 0]),(1,iA k)] fun G=>?_;refine wp_seq (j7 G f8 [0,1,9] [dE ks,.box [iA ky,iA vy,.ref 0],.box [iA 0,iA 0,.v (.slice none 0 0)]] [(1,iA k),(2,.ptr 1 0),(4,.ptr 2 0)] fun G=>b6 (wp_seq (af5 G (I7 (y7 1 [] (M7 3) (y7 3 [19] (ag1 7 ([c7.mk ky vy ks]++([c7.mk 1 3 []]++[]))) (y7 5 [] (M7 k) (y7 7 [51] (ag1 9 ([c7.mk 7 0 ([c7.mk ky vy ks]++([c7.mk 1 3 []]++[]))]++([c7.mk 1 k []]++[]))) I6)))) fz []) [0,0,3,7,0,31,63,127,255] [0,2,51] [dE ks,.box [iA 9,iA 0,.ref 2],dE ([c7.mk 7 0 ([c7.mk ky vy ks]++([c7.mk 1 3 []]++[]))]++([c7.mk 1 k []]++[]))] [(4,.ptr 1 0)] fun G=>b6 (wp_ret ?_))));exact G7 G [0,2]
theorem cq1{m:Int}{e f:c7}(h:m<0):E0 m e f=e:=if_pos h
theorem cq0{m:Int}{e f:c7}(h:¬m<0):E0 m e f=seE (vrE m) e f:=if_neg h
theorem bB7(m k1 v1 k2 v2:Int)(s1 s2:List c7)(hm:m<0):j8.ok Tryz.prog ⟨137,[iA m,.agg [iA k1,iA v1,.ref 0],.agg [iA k2,iA v2,.ref 1]],[dE s1,dE s2],[dE s1,dE s2],.agg [iA k1,iA v1,.ref 0]⟩:=by
 refine D9 16 Tryz.func137 [dE s1,dE s2] [(0,iA m),(1,.agg [iA k1,iA v1,.ref 0]),(2,.agg [iA k2,iA v2,.ref 1])] fun G=>?_;refine wp_seq (j7 G f8 [0,1,2,10,18] [dE s1,dE s2,.box [iA k1,iA v1,.ref 0],.box [iA k2,iA v2,.ref 1],.box [iA 0,iA 0,.v (.slice none 0 0)]] [(0,iA m),(4,.ptr 2 0),(5,.ptr 3 0),(6,.ptr 4 0)] fun G=>b6 (wp_seq (wp_seq (C6 G f8 [(0,iA m),(4,.ptr 2 0),(5,.ptr 3 0),(6,.ptr 4 0),(8,bA (decide (m<0)))] fun G=>b6 ?_))));cases h0:(decide (m<0))
 ·have q0:=dFf h0;exact False.elim al
 have q0:=dTt h0;refine rT G _ h0 (wp_seq (j7 G f8 (rg 5) [dE s1,dE s2,.box [iA k1,iA v1,.ref 0],.box [iA k2,iA v2,.ref 1],.box [iA k1,iA v1,.ref 0]] [(0,iA m),(4,.ptr 2 0),(5,.ptr 3 0),(6,.ptr 4 0)] fun G=>b6 (wp_ret (l7 ?_))));exact G7 G [0,1]
theorem bB6(m k1 v1 k2 v2:Int)(s1 s2:List c7)(hm:¬m<0):j8.ok Tryz.prog ⟨137,[iA m,.agg [iA k1,iA v1,.ref 0],.agg [iA k2,iA v2,.ref 1]],[dE s1,dE s2],[dE s1,dE s2,dE (seE (vrE m) ⟨k1,v1,s1⟩ ⟨k2,v2,s2⟩).kids],.agg [iA 11,iA 0,.ref 2]⟩:=by
 refine D9 16 Tryz.func137 [dE s1,dE s2] [(0,iA m),(1,.agg [iA k1,iA v1,.ref 0]),(2,.agg [iA k2,iA v2,.ref 1])] fun G=>?_;refine wp_seq (j7 G f8 [0,1,2,10,18] [dE s1,dE s2,.box [iA k1,iA v1,.ref 0],.box [iA k2,iA v2,.ref 1],.box [iA 0,iA 0,.v (.slice none 0 0)]] [(0,iA m),(4,.ptr 2 0),(5,.ptr 3 0),(6,.ptr 4 0)] fun G=>b6 (wp_seq (wp_seq (C6 G f8 [(0,iA m),(4,.ptr 2 0),(5,.ptr 3 0),(6,.ptr 4 0),(8,bA (decide (m<0)))] fun G=>b6 ?_))));cases h0:(decide (m<0))
 ·have q0:=dFf h0;refine rF G _ h0 (wp_skip (b6 (wp_seq (af5 G (I7 (y7 1 [] (ap4 m) (y7 5 [37] (ag1 11 ([c7.mk 2 m []]++([c7.mk k1 v1 s1]++([c7.mk k2 v2 s2]++[])))) I6)) fz []) [0,1,0,0,15,31,63] [0,1,4,37] [dE s1,dE s2,.box [iA 11,iA 0,.ref 3],dE ([c7.mk 2 m []]++([c7.mk k1 v1 s1]++([c7.mk k2 v2 s2]++[])))] [(6,.ptr 2 0)] fun G=>b6 (wp_ret ?_)))));exact G7 G [0,1,3]
 have q0:=dTt h0;exact False.elim al
theorem am8(m k1 v1 k2 v2:Int)(s1 s2:List c7):j8.ok Tryz.prog ⟨137,[iA m,.agg [iA k1,iA v1,.ref 0],.agg [iA k2,iA v2,.ref 1]],[dE s1,dE s2],[dE s1,dE s2,dE (E0 m ⟨k1,v1,s1⟩ ⟨k2,v2,s2⟩).kids],.agg [iA (E0 m ⟨k1,v1,s1⟩ ⟨k2,v2,s2⟩).kind,iA (E0 m ⟨k1,v1,s1⟩ ⟨k2,v2,s2⟩).value,.ref 2]⟩:=by
 by_cases hm:m<0
 ·rw[cq1 hm]
  exact j8.dupPost (S:=[dE s1,dE s2]) (d:=.exprs s1) (i:=0) (bB7 m k1 v1 k2 v2 s1 s2 hm) rfl (cE1 _) rfl (fun ρ h=>by
   have h:ρ 2=ρ 0:=h
   simp only[AV.val,AV.vals,h];rfl) rfl
 rw[cq0 hm]
 exact bB6 m k1 v1 k2 v2 s1 s2 hm
theorem ap5(vs ars:List Int)(bd:List c6)(l:Int)(hl:vs.length<=8000000):j8.ok Tryz.prog ⟨177,[.agg [.ref 0,.ref 1,nlA,.ref 2],iA l],[qI vs,dI ars,qT bd],[qI vs,dI ars,qT bd,qI (vs++[l])],.tup [.agg [.ref 3,.ref 1,nlA,.ref 2],iA (vs.length:Int)]⟩:=by
 refine D9 22 Tryz.func177 [.row 3 (D.ints vs),dI ars,.row 98 (D.stmts bd)] [(0,.agg [.ref 0,.ref 1,.v (.slice none 0 0),.ref 2]),(1,iA l)] fun G=>?_;refine wp_seq (j7 G f8 [0,1,2,3,11] [.row 3 (D.ints vs),dI ars,.row 98 (D.stmts bd),.box [.ref 0,.ref 1,.v (.slice none 0 0),.ref 2],.box [.v (.slice none 0 0),.v (.slice none 0 0),.v (.slice none 0 0),.v (.slice none 0 0)]] [(1,iA l),(2,.ptr 3 0),(4,.ptr 4 0),(5,iA 0)] fun G=>b6 (wp_seq (R9 G f8 [0,1,2,3,4,61] [.row 3 (D.ints vs),dI ars,.row 98 (D.stmts bd),.box [.ref 5,.ref 1,.v (.slice none 0 0),.ref 2],.box [.v (.slice none 0 0),.v (.slice none 0 0),.v (.slice none 0 0),.v (.slice none 0 0)],.row 3 (D.ints ([]++vs++([l]++[])))] [(2,.ptr 3 0),(4,.ptr 4 0),(5,iA 0)] (aP ((0:Nat)+vs.length) 8 (aP (([]++vs).length+1) 8 [])) (aK al (aK (by simp only[cE0,cE5,cE9];omega) cF1)) fun G=>b6 (wp_seq (K7 G f8 [0,0,2,6,14,30,1,127] [0,1,2,4,5] [.row 3 (D.ints vs),dI ars,.row 98 (D.stmts bd),.box [.ref 4,.ref 1,.v (.slice none 0 0),.ref 2],.row 3 (D.ints ([]++vs++([l]++[])))] [(4,.ptr 3 0),(5,iA ((([]++vs++([l]++[])).length:Int)-1))] [wO ((([]++vs++([l]++[])).length:Int)-1)] ⟨(w64 (by simp only[cE0,cE5,cE9];omega) (by simp only[cE0,cE5,cE9];omega)),cF1⟩ fun G=>b6 (wp_ret ?_))))));exact T9 (.tup [.agg [.ref 4,.ref 1,.v (.slice none 0 0),.ref 2],iA ((([]++vs++([l]++[])).length:Int)-1)]) G [0,1,2,4] (by have e1:((vs.length:Int):Int)=((([]++vs++([l]++[])).length:Int)-1):=(by simp only[cE0,cE5,cE9];omega);(first|rw[e1]|simp only[e1])<;>rfl)
theorem V7(vs ars:List Int)(bd:List c6)(v ky vy:Int)(ks:List c7)(hl:bd.length<=800000):j8.ok Tryz.prog ⟨136,[.agg [.ref 0,.ref 1,nlA,.ref 2],iA v,.agg [iA ky,iA vy,.ref 3]],[qI vs,dI ars,qT bd,dE ks],[qI vs,dI ars,.dead,dE ks,qT (bd++[Y5 v ⟨ky,vy,ks⟩])],.agg [.ref 0,.ref 1,nlA,.ref 4]⟩:=by
 refine D9 16 Tryz.func136 [.row 3 (D.ints vs),dI ars,.row 98 (D.stmts bd),dE ks] [(0,.agg [.ref 0,.ref 1,.v (.slice none 0 0),.ref 2]),(1,iA v),(2,.agg [iA ky,iA vy,.ref 3])] fun G=>?_;refine wp_seq (j7 G f8 [0,1,2,3,4,12,20] [.row 3 (D.ints vs),dI ars,.row 98 (D.stmts bd),dE ks,.box [.ref 0,.ref 1,.v (.slice none 0 0),.ref 2],.box [iA ky,iA vy,.ref 3],.box [.v (.slice none 0 0),.v (.slice none 0 0),.v (.slice none 0 0),.v (.slice none 0 0)]] [(1,iA v),(3,.ptr 4 0),(5,.ptr 5 0),(6,.ptr 6 0)] fun G=>b6 (wp_seq (R9 G f8 [0,1,2,3,4,6,55] [.row 3 (D.ints vs),dI ars,.dead,dE ks,.box [.ref 0,.ref 1,.v (.slice none 0 0),.ref 6],.box [.v (.slice none 0 0),.v (.slice none 0 0),.v (.slice none 0 0),.v (.slice none 0 0)],.row 98 (D.stmts (bd++([c6.mk 1 v (c7.mk 0 0 []) (c7.mk ky vy ks) 0 [] []]++[])))] [(3,.ptr 4 0),(6,.ptr 5 0)] (aP (bd.length+1) 152 []) (aK al cF1) fun G=>b6 (wp_seq (j7 G f8 [0,1,2,3,5,6] [.row 3 (D.ints vs),dI ars,.dead,dE ks,.box [.ref 0,.ref 1,.v (.slice none 0 0),.ref 5],.row 98 (D.stmts (bd++([c6.mk 1 v (c7.mk 0 0 []) (c7.mk ky vy ks) 0 [] []]++[])))] [(6,.ptr 4 0)] fun G=>b6 (wp_ret ?_))))));exact G7 G [0,1,2,3,5]
abbrev leC(ars:List Int)(pc:Int)(vs:List Int)(bd:List c6)(e:c7):j8:=⟨135,[.agg [.ref 0,.ref 1,nlA,.ref 2],eA e 3,iA pc],[qI vs,dI ars,qT bd,dE e.kids],[.dead,dI ars,.dead,dE e.kids,qI (i5 ars pc e (vs,bd)).1.1,qT (i5 ars pc e (vs,bd)).1.2,dE (i5 ars pc e (vs,bd)).2.kids],.tup [.agg [.ref 4,.ref 1,nlA,.ref 5],.agg [iA (i5 ars pc e (vs,bd)).2.kind,iA (i5 ars pc e (vs,bd)).2.value,.ref 6]]⟩
abbrev xE(ars:List Int)(pc:Int)(vs:List Int)(bd:List c6)(e:c7)(k:Nat):LnS×List c7:=A2 ars pc (e.kids.take k) (vs,bd)
section
variable{ars vs:List Int}{pc:Int}{bd:List c6}{e:c7}{d k:Nat}
theorem az7(he:i7 vs.length ars.length (d+1) e=true)(k:Nat):Grw vs.length ars.length d (G5 (e.kids.take k)) (vs,bd) (xE ars pc vs bd e k).1:=by
 rw[i7]at he
 simp only[cD5,cE2]at he
 exact(bx3 (ars:=ars) (pc:=pc) (na:=ars.length) (d:=d) (fun e s h=>ao4 ars pc ars.length d e s h) (e.kids.take k) (vs,bd) fun x hx=>he.1.2 x (List.mem_of_mem_take hx)).1
theorem b96(he:i7 vs.length ars.length (d+1) e=true)(r1:vs.length+(1+C0 e)<=100000)(r2:j6 bd+40*(1+C0 e)<=700000)(k:Nat):(xE ars pc vs bd e k).1.1.length+1<=100000/\(xE ars pc vs bd e k).1.2.length+40<=700000/\vs.length<=(xE ars pc vs bd e k).1.1.length:=by
 have h:=az7 (ars:=ars) (pc:=pc) (bd:=bd) he k
 have h1:=a04 e.kids k
 have h2:=O3 e
 have h3:=O2 (xE ars pc vs bd e k).1.2
 have a:=h.lo;have b:=h.hi;have c:=h.st
 simp only at a b c
 omega
theorem b95(he:i7 vs.length ars.length (d+1) e=true)(hk:k<e.kids.length):i7 (xE ars pc vs bd e k).1.1.length ars.length d (e.kids.getD k cD4)=true:=
 H5 (az7 (pc:=pc) (bd:=bd) he k).lo d _ (ab4 he hk)
theorem cj9(he:i7 vs.length ars.length (d+1) e=true)(r1:vs.length+(1+C0 e)<=100000)(hk:k<e.kids.length):(xE ars pc vs bd e k).1.1.length+(1+C0 (e.kids.getD k cD4))<=100000:=by
 have h:=(az7 (pc:=pc) (bd:=bd) he k).hi
 have h1:=(an7 e.kids k).2.1 hk
 have h2:=O3 e
 simp only at h
 omega
theorem cj8(he:i7 vs.length ars.length (d+1) e=true)(r2:j6 bd+40*(1+C0 e)<=700000)(hk:k<e.kids.length):j6 (xE ars pc vs bd e k).1.2+40*(1+C0 (e.kids.getD k cD4))<=700000:=by
 have h:=(az7 (pc:=pc) (bd:=bd) he k).st
 have h1:=(an7 e.kids k).2.1 hk
 have h2:=O3 e
 simp only at h
 omega
theorem cj5(hk:k<e.kids.length):(xE ars pc vs bd e (k+1)).1.1=(i5 ars pc (e.kids.getD k cD4) ((xE ars pc vs bd e k).1.1,(xE ars pc vs bd e k).1.2)).1.1:=by unfold xE;rw[at5 hk]
theorem cj4(hk:k<e.kids.length):(xE ars pc vs bd e (k+1)).1.2=(i5 ars pc (e.kids.getD k cD4) ((xE ars pc vs bd e k).1.1,(xE ars pc vs bd e k).1.2)).1.2:=by unfold xE;rw[at5 hk]
theorem cj3(hk:k<e.kids.length):(xE ars pc vs bd e (k+1)).2=(xE ars pc vs bd e k).2++[⟨(i5 ars pc (e.kids.getD k cD4) ((xE ars pc vs bd e k).1.1,(xE ars pc vs bd e k).1.2)).2.kind,(i5 ars pc (e.kids.getD k cD4) ((xE ars pc vs bd e k).1.1,(xE ars pc vs bd e k).1.2)).2.value,(i5 ars pc (e.kids.getD k cD4) ((xE ars pc vs bd e k).1.1,(xE ars pc vs bd e k).1.2)).2.kids⟩]:=by unfold xE;rw[at5 hk,c7.eta]
theorem b94(k:Nat):(xE ars pc vs bd e k).2.length<=e.kids.length:=by
 have h:∀(ks:List c7) (s:LnS),(A2 ars pc ks s).2.length=ks.length:=by
  intro ks
  induction ks with
  |nil=>intro s;rfl
  |cons x r ih=>intro s;rw[A2,cE5,ih,cE5]
 unfold xE;rw[h,List.length_take];exact Nat.min_le_right _ _
theorem bI5(hk:e.kids.length<=k)(hn:¬(e.kind=3/\ae5 (j5 (xE ars pc vs bd e k).1.1 ars 5 (e.kids.getD 0 cD4))=true)):i5 ars pc e (vs,bd)=((xE ars pc vs bd e k).1,⟨e.kind,e.value,(xE ars pc vs bd e k).2⟩):=by
 unfold xE at hn ⊢
 rw[cF0 hk]at hn ⊢
 rw[aO0,if_neg hn]
theorem b93(hk:e.kids.length<=k)(h3:e.kind=3)(hs:ae5 (j5 (xE ars pc vs bd e k).1.1 ars 5 (e.kids.getD 0 cD4))=true):i5 ars pc e (vs,bd)=(((xE ars pc vs bd e k).1.1++[m7 (j5 (xE ars pc vs bd e k).1.1 ars 5 e) pc],(xE ars pc vs bd e k).1.2++rdL ((xE ars pc vs bd e k).1.1.length:Int) e.value (e.kids.getD 0 cD4) 3),vrE ((xE ars pc vs bd e k).1.1.length:Int)):=by
 unfold xE at hs ⊢
 rw[cF0 hk]at hs ⊢
 rw[aO0,if_pos ⟨h3,hs⟩]
abbrev kE(e:c7):c7:=⟨(e.kids.getD 0 cD4).kind,(e.kids.getD 0 cD4).value,(e.kids.getD 0 cD4).kids⟩
theorem bQ3(e:c7):kE e=e.kids.getD 0 cD4:=c7.eta _
theorem cj6(he:i7 vs.length ars.length (d+1) e=true)(hd:d+1<=5)(h3:e.kind=3):i7 (xE ars pc vs bd e k).1.1.length ars.length 5 (kE e)=true:=by
 rw[bQ3]
 have:=aL6 he h3
 exact ba0 al (H5 (az7 (pc:=pc) (bd:=bd) he k).lo d _ (ab4 he this))
theorem cj7(he:i7 vs.length ars.length (d+1) e=true)(hd:d+1<=5):i7 (xE ars pc vs bd e k).1.1.length ars.length 5 ⟨e.kind,e.value,e.kids⟩=true:=by
 rw[c7.eta]
 exact ba0 hd (H5 (az7 (pc:=pc) (bd:=bd) he k).lo (d+1) _ he)
theorem aZ8(hk:e.kids.length<=k)(hn:¬e.kind=3):i5 ars pc e (vs,bd)=((xE ars pc vs bd e k).1,⟨e.kind,e.value,(xE ars pc vs bd e k).2⟩):=bI5 hk fun h=>hn h.1
theorem aZ7(hk:e.kids.length<=k)(hs:(!(i9 (j5 (xE ars pc vs bd e k).1.1 ars 5 (kE e))&&decide (j5 (xE ars pc vs bd e k).1.1 ars 5 (kE e)%2=1)))=true):i5 ars pc e (vs,bd)=((xE ars pc vs bd e k).1,⟨e.kind,e.value,(xE ars pc vs bd e k).2⟩):=by
 rw[bQ3,cF7]at hs
 exact bI5 hk fun h=>by
  have h5:=h.2
  unfold ae5 at h5
  rw[hs]at h5;cases h5
theorem aG8(hk:e.kids.length<=k)(h3:e.kind=3)(hs:(!(i9 (j5 (xE ars pc vs bd e k).1.1 ars 5 (kE e))&&decide (j5 (xE ars pc vs bd e k).1.1 ars 5 (kE e)%2=1)))=false):i5 ars pc e (vs,bd)=(((xE ars pc vs bd e k).1.1++[m7 (j5 (xE ars pc vs bd e k).1.1 ars 5 ⟨e.kind,e.value,e.kids⟩) pc],(xE ars pc vs bd e k).1.2++rdL ((xE ars pc vs bd e k).1.1.length:Int) e.value (kE e) 3),vrE ((xE ars pc vs bd e k).1.1.length:Int)):=by
 rw[bQ3]at hs ⊢
 rw[c7.eta]
 rw[cG1]at hs
 exact b93 hk h3 hs
theorem bW5{j:Nat}(hj:j=3)(hk:e.kids.length<=k)(h3:e.kind=3)(hs:(!(i9 (j5 (xE ars pc vs bd e k).1.1 ars 5 (kE e))&&decide (j5 (xE ars pc vs bd e k).1.1 ars 5 (kE e)%2=1)))=false):(i5 ars pc e (vs,bd)).1.2=(xE ars pc vs bd e k).1.2++rdL ((xE ars pc vs bd e k).1.1.length:Int) e.value (kE e) j:=by
 rw[hj,aG8 hk h3 hs]
theorem cz3{v a:Int}{i:c7}{j:Nat}:bd++rdL v a i (j+1)=bd++rdL v a i j++[Y5 v ⟨11,0,[⟨9,0,(aj6 i ((j:Int)+1)).kids⟩,⟨3,a,[⟨1,(j:Int)+1,[]⟩]⟩,⟨2,v,[]⟩]⟩]:=by
 rw[rdL,cI0];rfl
end
abbrev az4(e:c7):=A0 (e.kids.getD 0 cD4)
abbrev aZ1(e:c7)(ars:List Int)(pc:Int)(vs:List Int)(bd:List c6)(k:Nat):=j5 (xE ars pc vs bd e k).fst.fst ars 5 (A0 e)
abbrev as2(e:c7)(ars:List Int)(pc:Int)(vs:List Int)(bd:List c6)(k:Nat):=i5 ars pc (e.kids.getD k cD4) (xE ars pc vs bd e k).fst
abbrev az3(e:c7)(ars:List Int)(pc:Int)(vs:List Int)(bd:List c6):List It:=[.dead,dI ars,.dead,dE e.kids,.row 3 (D.ints (i5 ars pc e (vs,bd)).fst.fst),.row 98 (D.stmts (i5 ars pc e (vs,bd)).fst.snd),dE (i5 ars pc e (vs,bd)).snd.kids]
abbrev ab3:It:=.box [.v (.slice none 0 0),.v (.slice none 0 0),.v (.slice none 0 0),.v (.slice none 0 0)]
abbrev Y1:It:=.box [iA 0,iA 0,.v (.slice none 0 0)]
abbrev aJ6(e:c7)(ars:List Int)(pc:Int)(vs:List Int)(bd:List c6)(k:Nat):It:=.row 3 (D.ints ((xE ars pc vs bd e k).fst.fst++[m7 (aZ1 e ars pc vs bd k) pc]))
abbrev ak2:It:=.box [.ref 8,.ref 1,.v (.slice none 0 0),.ref 9]
abbrev J1(r0:List (Nat×AV)):List (Nat×AV):=(3,.ptr 4 0)::(4,.ptr 5 0)::(6,.ptr 6 0)::(7,.ptr 7 0)::r0
abbrev ar9(e:c7)(ars:List Int)(pc:Int)(vs:List Int)(bd:List c6)(k:Nat)(r0:List It):List It:=.row 3 (D.ints (xE ars pc vs bd e k).fst.fst)::.row 98 (D.stmts (xE ars pc vs bd e k).fst.snd)::r0
abbrev aI9(e:c7)(ars:List Int)(r0:List It):List It:=.dead::dI ars::.dead::dE e.kids::.box [.ref 9,.ref 1,.v (.slice none 0 0),.ref 10]::.box (eL e 3)::r0
abbrev bj0(r0:List It):List It:=.box [.v (.slice none 0 0),.v (.slice none 0 0),.v (.slice none 0 0),.v (.slice none 0 0)]::.box [iA 0,iA 0,.v (.slice none 0 0)]::r0
theorem bL2(e:c7)(ars:List Int)(pc:Int)(d:Nat)(hd:d+1<=5)(ih:∀(u:c7),u∈e.kids->∀(vs:List Int) (bd:List c6),i7 vs.length ars.length d u=true->vs.length+(1+C0 u)<=100000->j6 bd+40*(1+C0 u)<=700000->j8.ok Tryz.prog (leC ars pc vs bd u))
    (vs:List Int) (bd:List c6) (he:i7 vs.length ars.length (d+1) e=true) (r1:vs.length+(1+C0 e)<=100000) (r2:j6 bd+40*(1+C0 e)<=700000):j8.ok Tryz.prog (leC ars pc vs bd e):=by
  refine D9 102 Tryz.func135 [.row 3 (D.ints vs),dI ars,.row 98 (D.stmts bd),dE e.kids] [(0,.agg [.ref 0,.ref 1,.v (.slice none 0 0),.ref 2]),(1,eA e 3),(2,iA pc)] fun G=>?_
  have hlen:e.kids.length<=C0 e:=by cases e;exact av6 _
  have hb:=b96 (ars:=ars) (pc:=pc) (bd:=bd) he r1 r2;refine wp_seq (j7 G f8 [0,1,2,3,4,12,20,28] [.row 3 (D.ints vs),dI ars,.row 98 (D.stmts bd),dE e.kids,.box [.ref 0,.ref 1,.v (.slice none 0 0),.ref 2],.box (eL e 3),ab3,Y1] ((2,iA pc)::(J1 [])) fun G=>b6 (wp_seq (j7 G f8 [0,1,2,3,4,5,6,7,48] [.row 3 (D.ints vs),dI ars,.row 98 (D.stmts bd),dE e.kids,.box [.ref 0,.ref 1,.v (.slice none 0 0),.ref 2],.box (eL e 3),ab3,Y1,.box [iA e.kind,iA e.value,.v (.slice none 0 0)]] ((2,iA pc)::(J1 [(8,.ptr 8 0)])) fun G=>b6 (wp_seq (wp_seq (C6 G f8 ((2,iA pc)::(J1 [(8,.ptr 8 0),(9,iA 0)])) fun G=>b6 (wp_block ?_)))))));obtain⟨ρ,G⟩:=G.shift 0 9 (.dead::dI ars::.row 98 (D.stmts bd)::dE e.kids::.box [.ref 9,.ref 1,.v (.slice none 0 0),.ref 2]::.box (eL e 3)::(bj0 [.box [iA e.kind,iA e.value,.v (.slice none 0 0)],.row 3 (D.ints vs)])) ((2,iA pc)::(J1 [(8,.ptr 8 0),(9,iA 0)]));obtain⟨ρ,G⟩:=G.shift 2 10 (aI9 e ars (bj0 [.box [iA e.kind,iA e.value,.v (.slice none 0 0)],.row 3 (D.ints vs),.row 98 (D.stmts bd)])) ((2,iA pc)::(J1 [(8,.ptr 8 0),(9,iA 0)]));obtain⟨ρ,G⟩:=G.nil 11 96 (.exprs []) 9 (aI9 e ars (bj0 [.box (eL e 11),.row 3 (D.ints vs),.row 98 (D.stmts bd)])) ((2,iA pc)::(J1 [(8,.ptr 8 0),(9,iA 0)]));refine t9 (κ:=Nat) (fun k=>k<=e.kids.length) (fun k=>e.kids.length-k) (fun k=>[.dead,dI ars,.dead,dE e.kids,.box [.ref 9,.ref 1,.v (.slice none 0 0),.ref 10],.box (eL e 3),.box [.v (.slice none 0 0),.v (.slice none 0 0),.v (.slice none 0 0),.v (.slice none 0 0)],.box [iA 0,iA 0,.v (.slice none 0 0)],.box (eL e 11),.row 3 (.ints (xE ars pc vs bd e k).1.1),.row 98 (.stmts (xE ars pc vs bd e k).1.2),.row 96 (.exprs (xE ars pc vs bd e k).2)]) (fun k=>[(2,iA pc),(3,.ptr 4 0),(4,.ptr 5 0),(6,.ptr 6 0),(7,.ptr 7 0),(8,.ptr 8 0),(9,iA k)]) 0 al (x7.at G _ _) ?_;clear G;intro k ρ a w hp G;replace G:=x7.at G (aI9 e ars (ab3::Y1::.box (eL e 11)::(ar9 e ars pc vs bd k [.row 96 (D.exprs (xE ars pc vs bd e k).snd)]))) ((2,iA pc)::(J1 [(8,.ptr 8 0),(9,iA k)]));have hbk:=hb k;have hxl:=b94 (ars:=ars) (pc:=pc) (vs:=vs) (bd:=bd) (e:=e) k;refine wp_seq (wp_seq (l6 G f8 [(22,bA (decide ((k:Int)<e.kids.length)))] fun G=>b6 (rcD G (fun h0 q0=>?_) fun h0 q0=>?_)))
  ·
   refine wp_exit (t4 (t4 (t3 (b6 (wp_seq (wp_seq ?_))))));cases h1:(e.kind !=3)
   ·
    have q1:=bne_eq_false_iff_eq.1 h1;refine aj3 G (I7 (y7 10 [9,1,84] (j8.lend (ac5 ((xE ars pc vs bd e k).fst.fst) ars ((e.kids.getD 0 cD4).kind) ((e.kids.getD 0 cD4).value) ((e.kids.getD 0 cD4).kids) (cj6 he hd al)) [.row 3]) (y7 11 [] (M9 (j5 (xE ars pc vs bd e k).fst.fst ars 5 (az4 e))) I6)) (fc h1 fz) (us [(4,12,0),(1013,1013,0)])) [0,1,3,7,15,31,15,79,207,463,1023,2047,4095,8191] [(56,.v (.bool !(i9 (j5 (xE ars pc vs bd e k).fst.fst ars 5 (az4 e))&&decide (j5 (xE ars pc vs bd e k).fst.fst ars 5 (az4 e)%2=1))))] (iX 0 0 e.kids.length []) (iK (by have:=aL6 he al;omega) cF1) fun G=>b6 ?_;cases h2:(!(i9 (j5 (xE ars pc vs bd e k).fst.fst ars (5:Nat) (A0 (e.kids.getD (0:Nat) cD4)))&&decide (j5 (xE ars pc vs bd e k).fst.fst ars (5:Nat) (A0 (e.kids.getD (0:Nat) cD4))%(2:Int)=1)))
    ·
     have q2:((i9 (j5 (xE ars pc vs bd e k).fst.fst ars 5 (A0 (e.kids.getD 0 cD4))))=true)/\(j5 (xE ars pc vs bd e k).fst.fst ars 5 (A0 (e.kids.getD 0 cD4))%2=1):=(fun hq=>And.imp (fun hq=>(hq)) (fun hq=>of_decide_eq_true hq) (Bool.and_eq_true_iff.1 hq)) (Eq.mp (cG1 _) h2);refine rF G _ h2 (wp_skip (b6 (wp_seq (j7 G f8 [0,1,2,3,4,5,6,7,9,10] (.dead::dI ars::.dead::dE e.kids::ak2::.box (eL e 3)::ab3::Y1::(ar9 e ars pc vs bd k [])) ((2,iA pc)::(J1 [(11,iA 0)])) fun G=>b6 (wp_seq (af5 G (I7 (y7 4 [8,1,3] (j8.lend (ac5 ((xE ars pc vs bd e k).fst.fst) ars e.kind e.value e.kids (cj7 he hd)) [.row 3]) (y7 7 [8,1,9] (ap5 ((xE ars pc vs bd e k).fst.fst) ars ((xE ars pc vs bd e k).fst.snd) (m7 (aZ1 e ars pc vs bd k) pc) al) I6)) fz []) [0,0,2,0,14,0,62,127,255,511,511,1023,4095] [0,1,2,3,4,5,6,7,9,66] [.dead,dI ars,.dead,dE e.kids,.box [.ref 9,.ref 1,.v (.slice none 0 0),.ref 8],.box (eL e 3),ab3,Y1,.row 98 (D.stmts (xE ars pc vs bd e k).fst.snd),aJ6 e ars pc vs bd k] (J1 [(11,iA ((xE ars pc vs bd e k).fst.fst.length:Int))]) fun G=>b6 (wp_seq (af5 G (I7 (y7 4 [] (M7 0) (y7 5 [42] (ay3 e.value 1 0 ([])) (y7 6 [9,1,8,50] (V7 ((xE ars pc vs bd e k).fst.fst++[m7 (aZ1 e ars pc vs bd k) pc]) ars ((xE ars pc vs bd e k).fst.snd) (((xE ars pc vs bd e k).fst.fst.length:Int)) 3 e.value ([c7.mk 1 0 []]) al) I6))) fz []) [0,0,0,4,0,28,63,127] [0,1,2,3,4,5,6,7,9,58] [.dead,dI ars,.dead,dE e.kids,ak2,.box (eL e 3),ab3,Y1,aJ6 e ars pc vs bd k,.row 98 (D.stmts ((xE ars pc vs bd e k).fst.snd++[Y5 ((xE ars pc vs bd e k).fst.fst.length:Int) (c7.mk 3 e.value [c7.mk 1 0 []])]))] (J1 [(11,iA ((xE ars pc vs bd e k).fst.fst.length:Int))]) fun G=>b6 (wp_seq (wp_seq (C6 G f8 (J1 [(11,iA ((xE ars pc vs bd e k).fst.fst.length:Int)),(12,iA 1)]) fun G=>b6 (wp_block ?_))))))))))));refine t9 (κ:=Nat) (fun j=>j<=3) (fun j=>3-j) (fun j=>[.dead,dI ars,.dead,dE e.kids,.box [.ref 8,.ref 1,.v (.slice none 0 0),.ref 9],.box (eL e 3),.box [.v (.slice none 0 0),.v (.slice none 0 0),.v (.slice none 0 0),.v (.slice none 0 0)],.box [iA 0,iA 0,.v (.slice none 0 0)],.row 3 (D.ints ((xE ars pc vs bd e k).fst.fst++[m7 (j5 (xE ars pc vs bd e k).fst.fst ars 5 (A0 e)) pc])),.row 98 (.stmts ((xE ars pc vs bd e k).1.2++rdL ((xE ars pc vs bd e k).1.1.length:Int) e.value (kE e) j))]) (fun j=>[(3,.ptr 4 0),(4,.ptr 5 0),(6,.ptr 6 0),(7,.ptr 7 0),(11,iA ((xE ars pc vs bd e k).fst.fst.length:Int)),(12,iA ((j:Int)+1))]) 0 al (x7.at G _ _) ?_
     clear G;intro j ρ a w hp G;replace G:=x7.at G [.dead,dI ars,.dead,dE e.kids,ak2,.box (eL e 3),ab3,Y1,aJ6 e ars pc vs bd k,.row 98 (D.stmts ((xE ars pc vs bd e k).fst.snd++rdL ((xE ars pc vs bd e k).fst.fst.length:Int) e.value (kE e) j))] (J1 [(11,iA ((xE ars pc vs bd e k).fst.fst.length:Int)),(12,iA ((j:Int)+1))]);refine wp_seq (wp_seq (l6 G f8 [(78,bA (decide ((j:Int)+1<4)))] fun G=>b6 (rcD G (fun h3 q3=>?_) fun h3 q3=>?_)))
     · refine wp_exit (t4 (t4 (t3 (b6 (wp_seq (af5 G (x6 2 [] (ap4 (((xE ars pc vs bd e k).fst.fst.length:Int)))) [0,0,2,7,15] [0,1,2,3,6,7,8,9,26] [.dead,dI ars,.dead,dE e.kids,.box [.ref 6,.ref 1,.v (.slice none 0 0),.ref 7],.box [iA 2,iA ((xE ars pc vs bd e k).fst.fst.length:Int),.ref 8],aJ6 e ars pc vs bd k,.row 98 (D.stmts ((xE ars pc vs bd e k).fst.snd++rdL ((xE ars pc vs bd e k).fst.fst.length:Int) e.value (kE e) j)),dE []] [(6,.ptr 4 0),(7,.ptr 5 0)] fun G=>b6 (wp_ret ?_)))))));exact T9 (.tup [.agg [.ref 6,.ref 1,.v (.slice none 0 0),.ref 7],.agg [iA 2,iA ((xE ars pc vs bd e k).fst.fst.length:Int),.ref 8]]) G [0,1,2,3,6,7,8] (by have e1:((i5 ars pc e (vs,bd)).snd.kind:Int)=(2):=(by rw[aG8 (ars:=ars) (pc:=pc) (vs:=vs) (bd:=bd) (e:=e) (k:=k) al al ab];rfl);have e2:((i5 ars pc e (vs,bd)).snd.value:Int)=(((xE ars pc vs bd e k).fst.fst.length:Int)):=(by rw[aG8 (ars:=ars) (pc:=pc) (vs:=vs) (bd:=bd) (e:=e) (k:=k) al al ab];rfl);(first|rw[e1,e2]|simp only[e1,e2])<;>rfl) (by show _=mR [0,1,2,3,6,7,8] (az3 e ars pc vs bd);unfold az3;have e2:((i5 ars pc e (vs,bd)).fst.snd:List c6)=((xE ars pc vs bd e k).fst.snd++rdL ((xE ars pc vs bd e k).fst.fst.length:Int) e.value (kE e) j):=(bW5 (k:=k) (show j=3 by omega) al al ab);rw[e2,aG8 (ars:=ars) (pc:=pc) (vs:=vs) (bd:=bd) (e:=e) (k:=k) al al ab]<;>rfl)
     refine wp_skip (b6 (wp_seq (wp_block (K7 G (I7 (y7 7 [50] (bz9 ((e.kids.getD 0 cD4).kind) ((e.kids.getD 0 cD4).value) ((e.kids.getD 0 cD4).kids) ((j:Int)+1)) (y7 11 [] (M7 ((j:Int)+1)) (y7 12 [98] (ay3 e.value 1 ((j:Int)+1) ([])) (y7 14 [] (ap4 (((xE ars pc vs bd e k).fst.fst.length:Int))) (y7 16 [130] (ag1 11 ([c7.mk 9 0 (aj6 (az4 e) ((j:Int)+1)).kids]++([c7.mk 3 e.value [c7.mk 1 ((j:Int)+1) []]]++([c7.mk 2 ((xE ars pc vs bd e k).fst.fst.length:Int) []]++[])))) (y7 17 [8,1,9,130] (V7 ((xE ars pc vs bd e k).fst.fst++[m7 (aZ1 e ars pc vs bd k) pc]) ars ((xE ars pc vs bd e k).fst.snd++rdL ((xE ars pc vs bd e k).fst.fst.length:Int) e.value (kE e) j) (((xE ars pc vs bd e k).fst.fst.length:Int)) 11 0 ([c7.mk 9 0 (aj6 (az4 e) ((j:Int)+1)).kids]++([c7.mk 3 e.value [c7.mk 1 ((j:Int)+1) []]]++([c7.mk 2 ((xE ars pc vs bd e k).fst.fst.length:Int) []]++[]))) (by simp only[cE0,cE5,cE9,a24];omega)) I6)))))) fz []) [0,0,0,4,12,28,0,124,0,256,0,1276,4092,0,16380,32764,65532,131071,262143] [0,1,2,3,4,5,6,7,8,146] [.dead,dI ars,.dead,dE e.kids,ak2,.box (eL e 3),ab3,Y1,aJ6 e ars pc vs bd k,.row 98 (D.stmts ((xE ars pc vs bd e k).fst.snd++rdL ((xE ars pc vs bd e k).fst.fst.length:Int) e.value (kE e) j++[Y5 ((xE ars pc vs bd e k).fst.fst.length:Int) (c7.mk 11 0 ([c7.mk 9 0 (aj6 (az4 e) ((j:Int)+1)).kids]++([c7.mk 3 e.value [c7.mk 1 ((j:Int)+1) []]]++([c7.mk 2 ((xE ars pc vs bd e k).fst.fst.length:Int) []]++[]))))]))] (J1 [(11,iA ((xE ars pc vs bd e k).fst.fst.length:Int)),(12,iA ((j:Int)+1))]) (iX 0 0 e.kids.length []) (iK (by have:=aL6 he al;omega) cF1) fun G=>m8 (b6 (H0 G f8 [(12,iA ((j:Int)+1+1))] [wO ((j:Int)+1+1)] (o1 al) fun G=>b6 ?_))))));exact P7 G (j+1) al al (rg 10) (by have e1:((xE ars pc vs bd e k).fst.snd++rdL ((xE ars pc vs bd e k).fst.fst.length:Int) e.value (kE e) (j+1):List c6)=((xE ars pc vs bd e k).fst.snd++rdL ((xE ars pc vs bd e k).fst.fst.length:Int) e.value (kE e) j++[Y5 ((xE ars pc vs bd e k).fst.fst.length:Int) (c7.mk 11 0 ([c7.mk 9 0 (aj6 (A0 (e.kids.getD 0 cD4)) ((j:Int)+1)).kids]++([c7.mk 3 e.value [c7.mk 1 ((j:Int)+1) []]]++([c7.mk 2 ((xE ars pc vs bd e k).fst.fst.length:Int) []]++[]))))]):=cz3;(first|rw[e1]|simp only[e1])<;>rfl)
    have q2:((i9 (j5 (xE ars pc vs bd e k).fst.fst ars 5 (A0 (e.kids.getD 0 cD4))))=false)\/(¬(j5 (xE ars pc vs bd e k).fst.fst ars 5 (A0 (e.kids.getD 0 cD4))%2=1)):=(fun hq=>Or.imp (fun hq=>(hq)) (fun hq=>of_decide_eq_false hq) (Bool.and_eq_false_iff.1 hq)) (Eq.mp (cF7 _) h2);refine rT G _ h2 (wp_seq (af5 G f8 [0,0,1,7] [0,1,2,3,4,5,6,7,9,10,11] (.dead::dI ars::.dead::dE e.kids::ak2::.box (eL e 3)::ak2::.box (eL e 10)::(ar9 e ars pc vs bd k [.row 96 (D.exprs (xE ars pc vs bd e k).snd)])) ((2,iA pc)::(J1 [])) fun G=>b6 (wp_ret (l7 ?_))));obtain⟨ρ,G⟩:=G.frz [.no,.no,.no,.no,.no,.no,.no,.no,.no,.no,.row 96] (.dead::dI ars::.dead::dE e.kids::.box [.ref 8,.ref 1,.v (.slice none 0 0),.ref 9]::.box (eL e 3)::.box [.ref 8,.ref 1,.v (.slice none 0 0),.ref 9]::.box (eL e 10)::(ar9 e ars pc vs bd k [dE (xE ars pc vs bd e k).snd])) ((2,iA pc)::(J1 []));exact T9 (.tup [.agg [.ref 8,.ref 1,.v (.slice none 0 0),.ref 9],eA e 10]) G [0,1,2,3,8,9,10] (by have e1:((i5 ars pc e (vs,bd)).snd.kind:Int)=(e.kind):=(by rw[aZ7 (ars:=ars) (pc:=pc) (vs:=vs) (bd:=bd) (e:=e) (k:=k) al ab];rfl);have e2:((i5 ars pc e (vs,bd)).snd.value:Int)=(e.value):=(by rw[aZ7 (ars:=ars) (pc:=pc) (vs:=vs) (bd:=bd) (e:=e) (k:=k) al ab];rfl);(first|rw[e1,e2]|simp only[e1,e2])<;>rfl) (by show _=mR [0,1,2,3,8,9,10] (az3 e ars pc vs bd);unfold az3;rw[aZ7 (ars:=ars) (pc:=pc) (vs:=vs) (bd:=bd) (e:=e) (k:=k) al ab]<;>rfl)
   have q1:=bne_iff_ne.1 h1;refine bC6 G (H2 (fc h1 fz) (us [(4,12,0),(1013,1013,0)])) [0,1,3,7,15,31,15,79,207,463,1023,2047,4095,8191] [(56,bA true)] fun G=>b6 (rT G true aj (wp_seq (af5 G f8 [0,0,1,7] [0,1,2,3,4,5,6,7,9,10,11] (.dead::dI ars::.dead::dE e.kids::ak2::.box (eL e 3)::ak2::.box (eL e 10)::(ar9 e ars pc vs bd k [.row 96 (D.exprs (xE ars pc vs bd e k).snd)])) ((2,iA pc)::(J1 [])) fun G=>b6 (wp_ret (l7 ?_)))));obtain⟨ρ,G⟩:=G.frz [.no,.no,.no,.no,.no,.no,.no,.no,.no,.no,.row 96] (.dead::dI ars::.dead::dE e.kids::.box [.ref 8,.ref 1,.v (.slice none 0 0),.ref 9]::.box (eL e 3)::.box [.ref 8,.ref 1,.v (.slice none 0 0),.ref 9]::.box (eL e 10)::(ar9 e ars pc vs bd k [dE (xE ars pc vs bd e k).snd])) ((2,iA pc)::(J1 []));exact T9 (.tup [.agg [.ref 8,.ref 1,.v (.slice none 0 0),.ref 9],eA e 10]) G [0,1,2,3,8,9,10] (by have e1:((i5 ars pc e (vs,bd)).snd.kind:Int)=(e.kind):=(by rw[aZ8 (ars:=ars) (pc:=pc) (vs:=vs) (bd:=bd) (e:=e) (k:=k) al al];rfl);have e2:((i5 ars pc e (vs,bd)).snd.value:Int)=(e.value):=(by rw[aZ8 (ars:=ars) (pc:=pc) (vs:=vs) (bd:=bd) (e:=e) (k:=k) al al];rfl);(first|rw[e1,e2]|simp only[e1,e2])<;>rfl) (by show _=mR [0,1,2,3,8,9,10] (az3 e ars pc vs bd);unfold az3;rw[aZ8 (ars:=ars) (pc:=pc) (vs:=vs) (bd:=bd) (e:=e) (k:=k) al al]<;>rfl)
  refine wp_skip (b6 (wp_seq (wp_block (wp_seq (j7 G f8 [0,1,2,3,4,5,6,7,8,9,10,11,20] (aI9 e ars (ab3::Y1::.box (eL e 11)::(ar9 e ars pc vs bd k [.row 96 (D.exprs (xE ars pc vs bd e k).snd),Y1]))) ((2,iA pc)::(J1 [(8,.ptr 8 0),(9,iA k),(10,.ptr 12 0)])) fun G=>b6 (wp_seq (K7 G (x6 7 [9,1,10,53] (ih (e.kids.getD k cD4) (ax8 al) ((xE ars pc vs bd e k).fst.fst) ((xE ars pc vs bd e k).fst.snd) (b95 he al) (cj9 he r1 al) (cj8 he r2 al))) [0,0,2,0,14,30,0,127,255,511,511,1023,4095] [0,1,2,3,4,5,6,7,8,11,12,69,70,71] [.dead,dI ars,.dead,dE e.kids,.box [.ref 11,.ref 1,.v (.slice none 0 0),.ref 12],.box (eL e 3),ab3,Y1,.box (eL e 9),.row 96 (D.exprs (xE ars pc vs bd e k).snd),.box (eL (as2 e ars pc vs bd k).snd 13),.row 3 (D.ints (as2 e ars pc vs bd k).fst.fst),.row 98 (D.stmts (as2 e ars pc vs bd k).fst.snd),dE (as2 e ars pc vs bd k).snd.kids] ((2,iA pc)::(J1 [(8,.ptr 8 0),(9,iA k),(10,.ptr 10 0)])) (iX k k e.kids.length []) (iK al cF1) fun G=>b6 (R9 G f8 [0,1,2,3,4,5,6,7,8,11,12,46] (aI9 e ars [ab3,Y1,.box (eL e 11),.row 3 (D.ints (as2 e ars pc vs bd k).fst.fst),.row 98 (D.stmts (as2 e ars pc vs bd k).fst.snd),.row 96 (D.exprs ((xE ars pc vs bd e k).snd++([A0 (as2 e ars pc vs bd k).snd]++[])))]) ((2,iA pc)::(J1 [(8,.ptr 8 0),(9,iA k)])) (aP ((xE ars pc vs bd e k).snd.length+([A0 (i5 ars pc (e.kids.getD k cD4) (xE ars pc vs bd e k).fst).snd]++[]).length) 40 []) (aK (by simp only[cE0,cE5,cE9,a24];omega) cF1) fun G=>m8 (b6 (H0 G f8 [(9,iA ((k:Int)+1))] [wO ((k:Int)+1)] (o1 al) fun G=>b6 ?_))))))))));exact P7 G (k+1) al al (rg 12) (by have e1:((xE ars pc vs bd e (k+1)).fst.fst:List Int)=((i5 ars pc (e.kids.getD k cD4) (xE ars pc vs bd e k).fst).fst.fst):=(cj5 al);have e2:((xE ars pc vs bd e (k+1)).fst.snd:List c6)=((i5 ars pc (e.kids.getD k cD4) (xE ars pc vs bd e k).fst).fst.snd):=(cj4 al);have e3:((xE ars pc vs bd e (k+1)).snd:List c7)=((xE ars pc vs bd e k).snd++([A0 (i5 ars pc (e.kids.getD k cD4) (xE ars pc vs bd e k).fst).snd]++[])):=(cj3 al);(first|rw[e1,e2,e3]|simp only[e1,e2,e3])<;>rfl)
theorem bx6(ars:List Int)(pc:Int):∀(d:Nat),d<=5->∀(e:c7) (vs:List Int) (bd:List c6),i7 vs.length ars.length d e=true->vs.length+(1+C0 e)<=100000->j6 bd+40*(1+C0 e)<=700000->j8.ok Tryz.prog (leC ars pc vs bd e)
 |0,_,_,_,_,h,_,_=>by simp[i7]at h
 |d+1,hd,e,vs,bd,h,r1,r2=>bL2 e ars pc d hd (fun u _ vs bd h r1 r2=>bx6 ars pc d al u vs bd h r1 r2) vs bd h r1 r2
theorem bg8(ars:List Int)(pc:Int)(e:c7)(vs:List Int)(bd:List c6)(h:i7 vs.length ars.length 5 e=true)(r1:vs.length+(1+C0 e)<=100000)(r2:j6 bd+40*(1+C0 e)<=700000):j8.ok Tryz.prog (leC ars pc vs bd e):=bx6 ars pc 5 (cE1 _) e vs bd h r1 r2
theorem b35(e:c7)(hb:C0 e<=1048576):j8.ok Tryz.prog ⟨141,[eA e 0],eS e,eS e++[dE e.kids],.agg [iA e.kind,iA e.value,.ref 1]⟩:=
 j8.datPost (S:=eS e) (d:=.exprs e.kids) (a59 e hb) (.agg [iA e.kind,iA e.value,.ref 1])
theorem cy1{bd:List c6}{v t m:Int}{i:c7}{k:Nat}:bd++stL v t i m (k+1)=bd++stL v t i m k++[⟨2,t,⟨1,(k:Int),[]⟩,⟨11,0,[⟨(E0 m (aj6 i (k:Int)) (cnE 0)).kind,(E0 m (aj6 i (k:Int)) (cnE 0)).value,(E0 m (aj6 i (k:Int)) (cnE 0)).kids⟩,⟨2,v,[]⟩,⟨3,t,[⟨1,(k:Int),[]⟩]⟩]⟩,0,[],[]⟩]:=by
 rw[c7.eta,stL,cI0]
theorem cy0{bd:List c6}{v t m:Int}{i:c7}{k:Nat}(hk:k=4):bd++stL v t i m 4=bd++stL v t i m k:=by rw[hk]
abbrev cB9(ars vs:List Int)(bd:List c6)(m pc:Int)(t:c6)(e:c7):j8:=⟨140,[.agg [.ref 0,.ref 1,nlA,.ref 2],sA t 3,eA e 7,iA m,iA pc],[qI vs,dI ars,qT bd]++sS t++[dE e.kids],[qI vs,dI ars,.dead]++sS t++[dE e.kids,qI (vs++[m7 (j5 vs ars 5 ⟨e.kind,e.value,e.kids⟩) pc]),qT (bd++[Y5 (vs.length:Int) ⟨e.kind,e.value,e.kids⟩]++stL (vs.length:Int) t.target ⟨t.index.kind,t.index.value,t.index.kids⟩ m 4)],.agg [.ref 8,.ref 1,nlA,.ref 9]⟩
abbrev aJ5(m:Int)(t:c6)(k:Nat):=E0 m (c7.mk 9 0 (aj6 (A0 t.index) (k:Int)).kids) (c7.mk 1 0 [])
abbrev aZ0(vs:List Int)(bd:List c6)(m:Int)(t:c6)(e:c7)(k:Nat):=bd++[Y5 (vs.length:Int) (A0 e)]++stL (vs.length:Int) t.target (A0 t.index) m k
abbrev bj2(ars:List Int)(vs:List Int)(pc:Int)(e:c7):=vs++[m7 (j5 vs ars 5 (A0 e)) pc]
abbrev bj1:It:=.box [.v (.slice none 0 0),.v (.slice none 0 0),.v (.slice none 0 0),.v (.slice none 0 0)]
abbrev b91:It:=.box [.ref 11,.ref 1,.v (.slice none 0 0),.ref 12]
abbrev aI8(ars:List Int)(vs:List Int)(pc:Int)(t:c6)(e:c7)(r0:List It):List It:=.row 3 (D.ints vs)::dI ars::.dead::dE t.index.kids::dE t.value.kids::dT t.body::dT t.els::dE e.kids::b91::.box (sL t 3)::bj1::.row 3 (D.ints (bj2 ars vs pc e))::r0
abbrev ar8(vs:List Int)(m:Int)(r0:List (Nat×AV)):List (Nat×AV):=(3,iA m)::(5,.ptr 8 0)::(6,.ptr 9 0)::(10,.ptr 10 0)::(11,iA (vs.length:Int))::r0
abbrev az2(t:c6)(e:c7)(r0:List It):List It:=dE t.index.kids::dE t.value.kids::dT t.body::dT t.els::dE e.kids::r0
theorem bF4(ars vs:List Int)(bd:List c6)(m pc:Int)(t:c6)(e:c7)(he:i7 vs.length ars.length 5 ⟨e.kind,e.value,e.kids⟩=true)(r1:vs.length<=100000)(r2:bd.length<=700000):j8.ok Tryz.prog (cB9 ars vs bd m pc t e):=by
  refine D9 63 Tryz.func140 (.row 3 (D.ints vs)::dI ars::.row 98 (D.stmts bd)::(az2 t e [])) [(0,.agg [.ref 0,.ref 1,.v (.slice none 0 0),.ref 2]),(1,sA t 3),(2,eA e 7),(3,iA m),(4,iA pc)] fun G=>?_;refine wp_seq (j7 G f8 [0,1,2,3,4,5,6,7,8,16,24,32] (.row 3 (D.ints vs)::dI ars::.row 98 (D.stmts bd)::(az2 t e [.box [.ref 0,.ref 1,.v (.slice none 0 0),.ref 2],.box (sL t 3),.box (eL e 7),bj1])) [(3,iA m),(4,iA pc),(5,.ptr 8 0),(6,.ptr 9 0),(7,.ptr 10 0),(10,.ptr 11 0)] fun G=>b6 (wp_seq (l6 G f8 [(11,iA 0)] fun G=>b6 (wp_seq (af5 G (I7 (y7 4 [0,1,7] (j8.lend (ac5 vs ars e.kind e.value e.kids ai) [.row 3]) (y7 7 [0,1,2] (ap5 vs ars bd (m7 (j5 vs ars 5 (A0 e)) pc) al) I6)) fz []) [0,0,2,0,14,0,62,127,255,511,511,1023,4095] [0,1,2,3,4,5,6,7,8,9,10,11,68] (.row 3 (D.ints vs)::dI ars::.row 98 (D.stmts bd)::(az2 t e [.box [.ref 12,.ref 1,.v (.slice none 0 0),.ref 2],.box (sL t 3),.box (eL e 7),bj1,.row 3 (D.ints (bj2 ars vs pc e))])) [(3,iA m),(5,.ptr 8 0),(6,.ptr 9 0),(7,.ptr 10 0),(10,.ptr 11 0),(11,iA (vs.length:Int))] fun G=>b6 (wp_seq (j7 G (x6 3 [12,1,2,7] (V7 (vs++[m7 (j5 vs ars 5 (A0 e)) pc]) ars bd ((vs.length:Int)) e.kind e.value e.kids al)) [0,1,2,3,4,5,6,7,8,9,11,12,37] (aI8 ars vs pc t e [.row 98 (D.stmts (bd++[Y5 (vs.length:Int) (A0 e)]))]) (ar8 vs m []) fun G=>b6 (wp_seq (wp_seq (C6 G f8 (ar8 vs m [(12,iA 0)]) fun G=>b6 (wp_block ?_)))))))))));replace G:=G.as (.row 3 (D.ints vs)::dI ars::.dead::(az2 t e [.box [.ref 11,.ref 1,.v (.slice none 0 0),.ref 12],.box (sL t 3),.box [.v (.slice none 0 0),.v (.slice none 0 0),.v (.slice none 0 0),.v (.slice none 0 0)],.row 3 (D.ints (vs++[m7 (j5 vs ars 5 (A0 e)) pc])),.row 98 (D.stmts (bd++[Y5 (vs.length:Int) (A0 e)]++stL (vs.length:Int) t.target (A0 t.index) m 0))])) (ar8 vs m [(12,iA 0)]) (by have e1:(bd++[Y5 (vs.length:Int) (A0 e)]++stL (vs.length:Int) t.target (A0 t.index) m 0:List c6)=(bd++[Y5 (vs.length:Int) (A0 e)]):=(by simp only[stL,List.append_nil];done);(first|rw[e1]|simp only[e1])<;>rfl) aj;refine t9 (κ:=Nat) (fun k=>k<=4) (fun k=>4-k) (fun k=>[.row 3 (D.ints vs),dI ars,.dead,dE t.index.kids,dE t.value.kids,dT t.body,dT t.els,dE e.kids,.box [.ref 11,.ref 1,.v (.slice none 0 0),.ref 12],.box (sL t 3),.box [.v (.slice none 0 0),.v (.slice none 0 0),.v (.slice none 0 0),.v (.slice none 0 0)],.row 3 (D.ints (vs++[m7 (j5 vs ars 5 (A0 e)) pc])),.row 98 (.stmts (bd++[Y5 (vs.length:Int) ⟨e.kind,e.value,e.kids⟩]++stL (vs.length:Int) t.target ⟨t.index.kind,t.index.value,t.index.kids⟩ m k))]) (fun k=>[(3,iA m),(5,.ptr 8 0),(6,.ptr 9 0),(10,.ptr 10 0),(11,iA (vs.length:Int)),(12,iA k)]) 0 al (x7.at G _ _) ?_
  clear G;intro k ρ a w hp G;replace G:=x7.at G (aI8 ars vs pc t e [.row 98 (D.stmts (aZ0 vs bd m t e k))]) (ar8 vs m [(12,iA k)]);refine wp_seq (wp_seq (l6 G f8 [(31,bA (decide ((k:Int)<4)))] fun G=>b6 (rcD G (fun h0 q0=>?_) fun h0 q0=>?_)))
  · refine wp_exit (t4 (t4 (t3 (b6 (wp_seq (j7 G f8 [0,1,2,3,4,5,6,7,10,11,12] (.row 3 (D.ints vs)::dI ars::.dead::(az2 t e [.box [.ref 9,.ref 1,.v (.slice none 0 0),.ref 10],.row 3 (D.ints (bj2 ars vs pc e)),.row 98 (D.stmts (aZ0 vs bd m t e k))])) [(10,.ptr 8 0)] fun G=>b6 (wp_ret ?_)))))));exact G7 G [0,1,2,3,4,5,6,7,9,10] (by show _=mR [0,1,2,3,4,5,6,7,9,10] (.row 3 (D.ints vs)::dI ars::.dead::(az2 t e [.row 3 (D.ints (vs++[m7 (j5 vs ars 5 (A0 e)) pc])),.row 98 (D.stmts (bd++[Y5 (vs.length:Int) (A0 e)]++stL (vs.length:Int) t.target (A0 t.index) m 4))]));have e1:(bd++[Y5 (vs.length:Int) (A0 e)]++stL (vs.length:Int) t.target (A0 t.index) m 4:List c6)=(bd++[Y5 (vs.length:Int) (A0 e)]++stL (vs.length:Int) t.target (A0 t.index) m k):=(cy0 (show k=4 by omega));(first|rw[e1]|simp only[e1])<;>rfl)
  refine wp_skip (b6 (wp_seq (wp_block (wp_seq (j7 G (I7 (y7 4 [3] (bz9 t.index.kind t.index.value t.index.kids ((k:Int))) (y7 5 [] (M7 0) (y7 6 [45,53] (am8 m 9 0 1 0 ((aj6 (A0 t.index) (k:Int)).kids) ([])) I6))) fz []) [0,1,2,3,4,5,6,7,8,9,10,11,12,61,69] (aI8 ars vs pc t e [.row 98 (D.stmts (aZ0 vs bd m t e k)),dE (aJ5 m t k).kids,.box [iA (aJ5 m t k).kind,iA (aJ5 m t k).value,.ref 13]]) (ar8 vs m [(12,iA k),(13,.ptr 14 0)]) fun G=>b6 (wp_seq (af5 G (I7 (y7 2 [] (ap4 ((vs.length:Int))) (y7 6 [] (M7 ((k:Int))) (y7 7 [63] (ay3 t.target 1 ((k:Int)) ([])) (y7 9 [79] (ag1 11 ([A0 (E0 m (c7.mk 9 0 (aj6 (c7.mk t.index.kind t.index.value t.index.kids) (k:Int)).kids) (c7.mk 1 0 []))]++([c7.mk 2 (vs.length:Int) []]++([c7.mk 3 t.target [c7.mk 1 (k:Int) []]]++[])))) I6)))) fz []) [0,0,2,0,8,0,38,126,255,511,0,2047] [0,1,2,3,4,5,6,7,8,9,10,11,12,79,95] (aI8 ars vs pc t e [.row 98 (D.stmts (aZ0 vs bd m t e k)),dE ([A0 (aJ5 m t k)]++([c7.mk 2 (vs.length:Int) []]++([c7.mk 3 t.target [c7.mk 1 (k:Int) []]]++[]))),.box [iA 11,iA 0,.ref 13]]) (ar8 vs m [(12,iA k),(14,.ptr 14 0)]) fun G=>b6 (K7 G (x6 5 [] (M7 ((k:Int)))) [0,1,0,4,0,16,0,124,252,511,1023,2047] [0,1,2,3,4,5,6,7,8,9,10,11,87] (aI8 ars vs pc t e [.row 98 (D.stmts (bd++[Y5 (vs.length:Int) (A0 e)]++stL (vs.length:Int) t.target (A0 t.index) m k++([c6.mk 2 t.target (c7.mk 1 (k:Int) []) (c7.mk 11 0 ([A0 (aJ5 m t k)]++([c7.mk 2 (vs.length:Int) []]++([c7.mk 3 t.target [c7.mk 1 (k:Int) []]]++[])))) 0 [] []]++[])))]) (ar8 vs m [(12,iA k)]) (aP ((bd++[Y5 (vs.length:Int) (A0 e)]++stL (vs.length:Int) t.target (A0 t.index) m k).length+([c6.mk (2:Int) t.target (c7.mk (1:Int) (k:Int) []) (c7.mk (11:Int) (0:Int) ([A0 (E0 m (c7.mk (9:Int) (0:Int) (aj6 (c7.mk t.index.kind t.index.value t.index.kids) (k:Int)).kids) (c7.mk (1:Int) (0:Int) []))]++([c7.mk (2:Int) (vs.length:Int) []]++([c7.mk (3:Int) t.target [c7.mk (1:Int) (k:Int) []]]++[])))) (0:Int) [] []]++[]).length) 152 []) (aK (by simp only[cE0,cE5,cE9,bu5];omega) cF1) fun G=>?_))))))))
  refine m8 (b6 (H0 G f8 [(12,iA ((k:Int)+1))] [wO ((k:Int)+1)] (o1 al) fun G=>b6 ?_));exact P7 G (k+1) al al (rg 13) (by have e1:(bd++[Y5 (vs.length:Int) (A0 e)]++stL (vs.length:Int) t.target (A0 t.index) m (k+1):List c6)=(bd++[Y5 (vs.length:Int) (A0 e)]++stL (vs.length:Int) t.target (A0 t.index) m k++([c6.mk 2 t.target (c7.mk 1 (k:Int) []) (c7.mk 11 0 ([A0 (E0 m (c7.mk 9 0 (aj6 (c7.mk t.index.kind t.index.value t.index.kids) (k:Int)).kids) (c7.mk 1 0 []))]++([c7.mk 2 (vs.length:Int) []]++([c7.mk 3 t.target [c7.mk 1 (k:Int) []]]++[])))) 0 [] []]++[])):=cy1;(first|rw[e1]|simp only[e1])<;>rfl)
abbrev lbC(ars:List Int)(m pc:Int)(vs:List Int)(bd:List c6)(ss:List c6):j8:=⟨91,[.agg [.ref 0,.ref 1,nlA,.ref 3],.ref 2,iA m,iA pc],[qI vs,dI ars,dT ss,qT bd],[.dead,dI ars,dT ss,.dead,qI (r7 ars ss m pc (vs,bd)).1,qT (r7 ars ss m pc (vs,bd)).2],.agg [.ref 4,.ref 1,nlA,.ref 5]⟩
abbrev lnC(ars:List Int)(m pc:Int)(vs:List Int)(ss:List c6):j8:=⟨91,[.agg [.ref 0,.ref 1,nlA,nlA],.ref 2,iA m,iA pc],[qI vs,dI ars,dT ss],[.dead,dI ars,dT ss,qI (r7 ars ss m pc (vs,[])).1,qT (r7 ars ss m pc (vs,[])).2],.agg [.ref 3,.ref 1,nlA,.ref 4]⟩
abbrev b16(ars:List Int)(m pc:Int)(vs:List Int)(bd:List c6)(ss:List c6):j8:=⟨134,[.agg [.ref 0,.ref 1,nlA,.ref 2],.ref 3,iA m,iA pc],[qI vs,dI ars,qT bd,dT ss],[.dead,dI ars,qT bd,dT ss,qI (r7 ars ss m pc (vs,[])).1,dT (r7 ars ss m pc (vs,[])).2],.tup [.agg [.ref 4,.ref 1,nlA,.ref 2],.ref 5]⟩
theorem bB8(ars:List Int)(m pc:Int)(vs:List Int)(bd:List c6)(ss:List c6)(hB:j8.ok Tryz.prog (lnC ars m pc vs ss)):j8.ok Tryz.prog (b16 ars m pc vs bd ss):=by
 refine D9 25 Tryz.func134 [.row 3 (D.ints vs),dI ars,.row 98 (D.stmts bd),dT ss] [(0,.agg [.ref 0,.ref 1,.v (.slice none 0 0),.ref 2]),(1,.ref 3),(2,iA m),(3,iA pc)] fun G=>?_;refine wp_seq (j7 G f8 [0,1,2,3,4,12] [.row 3 (D.ints vs),dI ars,.row 98 (D.stmts bd),dT ss,.box [.ref 0,.ref 1,.v (.slice none 0 0),.ref 2],.box [.v (.slice none 0 0),.v (.slice none 0 0),.v (.slice none 0 0),.v (.slice none 0 0)]] [(1,.ref 3),(2,iA m),(3,iA pc),(4,.ptr 4 0),(8,.ptr 5 0),(9,.v (.slice none 0 0))] fun G=>b6 (wp_seq (j7 G (x6 6 [0,1,3] hB) [0,1,2,3,4,5,54,55,62] [.dead,dI ars,.row 98 (D.stmts bd),dT ss,.box [.ref 0,.ref 1,.v (.slice none 0 0),.ref 2],.box [.v (.slice none 0 0),.v (.slice none 0 0),.v (.slice none 0 0),.v (.slice none 0 0)],.row 3 (D.ints (r7 ars ss m pc (vs,[])).fst),.row 98 (D.stmts (r7 ars ss m pc (vs,[])).snd),.box [.ref 6,.ref 1,.v (.slice none 0 0),.ref 7]] [(4,.ptr 4 0),(8,.ptr 5 0),(9,.v (.slice none 0 0)),(10,.ptr 8 0)] fun G=>b6 (wp_seq (af5 G f8 [0,1,0,4,15,0,32,31,255] [0,1,2,3,5,6,7] [.dead,dI ars,.row 98 (D.stmts bd),dT ss,.box [.ref 5,.ref 1,.v (.slice none 0 0),.ref 2],.row 3 (D.ints (r7 ars ss m pc (vs,[])).fst),.row 98 (D.stmts (r7 ars ss m pc (vs,[])).snd)] [(8,.ptr 4 0),(9,.ref 6)] fun G=>b6 (wp_ret ?_))))));obtain⟨ρ,G⟩:=G.frz [.no,.no,.no,.no,.no,.no,.row 98] [.dead,dI ars,.row 98 (D.stmts bd),dT ss,.box [.ref 5,.ref 1,.v (.slice none 0 0),.ref 2],.row 3 (D.ints (r7 ars ss m pc (vs,[])).fst),dT (r7 ars ss m pc (vs,[])).snd] [(8,.ptr 4 0),(9,.ref 6)];exact G7 G [0,1,2,3,5,6]
abbrev cq7(ars:List Int)(m pc:Int)(vs:List Int)(bd:List c6)(t:c6):j8:=⟨133,[.agg [.ref 0,.ref 1,nlA,.ref 2],sA t 3,iA m,iA pc],[qI vs,dI ars,qT bd]++sS t,[.dead,dI ars,.dead]++sS t++[qI (K0 ars t m pc (vs,bd)).1,qT (K0 ars t m pc (vs,bd)).2],.agg [.ref 7,.ref 1,nlA,.ref 8]⟩
section
variable{ars vs:List Int}{bd:List c6}{m pc:Int}{t:c6}{nv dd:Nat}
theorem bR2(hh:G3 nv ars.length t=true)(k3:t.kind=3)(hv:nv<=vs.length):i7 vs.length ars.length 5 t.value=true:=H5 hv 5 _ (C3 hh al)
theorem cC1(hh:G3 nv ars.length t=true)(k3:t.kind=3)(hv:nv<=vs.length):Grw vs.length ars.length 5 (1+C0 t.value) (vs,bd) (i5 ars pc t.value (vs,bd)).1:=(ao4 ars pc ars.length 5 t.value (vs,bd) (bR2 hh k3 hv)).1
theorem ce8(hh:G3 nv ars.length t=true)(k3:t.kind=3)(hv:nv<=vs.length)(r1:vs.length+4*(1+N5 t)<=90000)(r2:j6 bd+130*(1+N5 t)<=600000):(i5 ars pc t.value (vs,bd)).1.1.length+3*(1+C0 t.value)+4*j6 t.body+4*j6 t.els<=90000/\nv<=(i5 ars pc t.value (vs,bd)).1.1.length/\j6 (i5 ars pc t.value (vs,bd)).1.2+60*(1+C0 t.value)+130*j6 t.body+130*j6 t.els<=600000/\(i5 ars pc t.value (vs,bd)).1.2.length<=600000:=by
 have g:=cC1 (pc:=pc) (bd:=bd) hh k3 hv
 have a:=g.lo;have b:=g.hi;have c:=g.st
 have hsz:N5 t=C0 t.index+C0 t.value+j6 t.body+j6 t.els:=by cases t;rfl
 have:=O2 (i5 ars pc t.value (vs,bd)).1.2
 simp only at a b c
 omega
end
abbrev etE(e:c7):c7:=⟨e.kind,e.value,e.kids⟩
abbrev ifN(x:LnS×c7)(m l:Int):LnS:=(x.1.1++[l]++[l],x.1.2++[Y5 (x.1.1.length:Int) (etE (E0 m (etE x.2) ⟨1,0,[]⟩))]++[Y5 ((x.1.1++[l]).length:Int) (etE (E0 m ⟨9,0,[⟨2,(x.1.1.length:Int),[]⟩]++([⟨1,0,[]⟩]++[])⟩ ⟨1,0,[]⟩))])
theorem bR3(x:LnS×c7)(m l:Int):ifN x m l=ifM x m l:=by
 unfold ifN ifM etE
 simp only[c7.eta]
 rfl
theorem ce9(x:LnS×c7)(m l:Int):j6 (ifM x m l).2<=j6 x.1.2+20+C0 x.2/\(ifM x m l).1.length=x.1.1.length+2:=by
 have m1:=ah3 m x.2 (cnE 0)
 have m2:=ah3 m ⟨9,0,[vrE (x.1.1.length:Int),cnE 0]⟩ (cnE 0)
 have m3:C0 ⟨9,0,[vrE (x.1.1.length:Int),cnE 0]⟩=2:=rfl
 have e0:C0 nnE=0:=rfl
 have e1:C0 (cnE 0)=0:=rfl
 constructor
 ·simp only[ifM,z9,j6,N5,e0];omega
 simp[ifM]
section
variable{ars vs:List Int}{bd:List c6}{m pc l:Int}{t:c6}{nv dd:Nat}
theorem cr1(hh:G3 nv ars.length t=true)(k3:t.kind=3)(hv:nv<=vs.length)(r1:vs.length+4*(1+N5 t)<=90000)(r2:j6 bd+130*(1+N5 t)<=600000):
  nv<=(ifN (i5 ars pc t.value (vs,bd)) m l).1.length/\(ifN (i5 ars pc t.value (vs,bd)) m l).1.length+4*j6 t.body+4*j6 t.els<=90000/\j6 (ifN (i5 ars pc t.value (vs,bd)) m l).2+130*j6 t.body+130*j6 t.els<=600000:=by
 have hb:=ce8 (pc:=pc) (bd:=bd) hh k3 hv r1 r2
 have hz:=ce9 (i5 ars pc t.value (vs,bd)) m l
 have h3:=(ao4 ars pc ars.length 5 t.value (vs,bd) (bR2 hh k3 hv)).2.2
 rw[bR3]
 omega
theorem cr0(hh:G3 nv ars.length t=true)(k3:t.kind=3)(hv:nv<=vs.length)(r1:vs.length+4*(1+N5 t)<=90000)(r2:j6 bd+130*(1+N5 t)<=600000):j6 (ifN (i5 ars pc t.value (vs,bd)) m l).2+130*j6 t.body<=600000:=by have:=(cr1 (m:=m) (l:=l) (pc:=pc) hh k3 hv r1 r2).2.2;omega
theorem ce7{u:Int}(hbb:t.body.all (j9 nv ars.length dd)=true)(hh:G3 nv ars.length t=true)(k3:t.kind=3)(hv:nv<=vs.length)(r1:vs.length+4*(1+N5 t)<=90000)(r2:j6 bd+130*(1+N5 t)<=600000):
  nv<=(r7 ars t.body u l (ifN (i5 ars pc t.value (vs,bd)) m l)).1.length/\(r7 ars t.body u l (ifN (i5 ars pc t.value (vs,bd)) m l)).1.length+4*j6 t.els<=90000/\j6 (r7 ars t.body u l (ifN (i5 ars pc t.value (vs,bd)) m l)).2+130*j6 t.els<=600000:=by
 have h:=cr1 (m:=m) (l:=l) (pc:=pc) hh k3 hv r1 r2
 have g:=a38 ars t.body u l (ifN (i5 ars pc t.value (vs,bd)) m l) hbb h.1
 have a:=g.lo;have b:=g.hi;have c:=g.st
 omega
theorem cr2(hbb:t.body.all (j9 nv ars.length dd)=true)(hh:G3 nv ars.length t=true)(k3:t.kind=3)(hv:nv<=vs.length)(r1:vs.length+4*(1+N5 t)<=90000)(r2:j6 bd+130*(1+N5 t)<=600000):
  nv<=(r7 ars t.body m l ((i5 ars pc t.value (vs,bd)).1.1,[])).1.length/\(r7 ars t.body m l ((i5 ars pc t.value (vs,bd)).1.1,[])).1.length+4*j6 t.els<=90000:=by
 have hb:=ce8 (pc:=pc) (bd:=bd) hh k3 hv r1 r2
 have g:=a38 ars t.body m l ((i5 ars pc t.value (vs,bd)).1.1,[]) hbb hb.2.1
 have a:=g.lo;have b:=g.hi
 simp only at a b
 omega
abbrev lbV(ars vs:List Int)(pc:Int)(t:c6):Int:=m7 pc (j5 vs ars 5 (etE t.value))
theorem cr4(k3:t.kind=3)(h:(!(i9 (j5 vs ars 5 (etE t.value))&&decide (j5 vs ars 5 (etE t.value)%2=1)))=false):K0 ars t m pc (vs,bd)=r7 ars t.els (((i5 ars pc t.value (vs,bd)).1.1++[lbV ars vs pc t]).length:Int) (lbV ars vs pc t) (r7 ars t.body ((i5 ars pc t.value (vs,bd)).1.1.length:Int) (lbV ars vs pc t) (ifN (i5 ars pc t.value (vs,bd)) m (lbV ars vs pc t))):=by
 rw[cG1]at h
 rw[bR3]
 unfold lbV
 rw[show etE t.value=t.value from c7.eta _]at h ⊢
 exact cq3 k3 h
theorem cr6(k3:t.kind=3)(h:(!(i9 (j5 vs ars 5 (etE t.value))&&decide (j5 vs ars 5 (etE t.value)%2=1)))=true):K0 ars t m pc (vs,bd)=((r7 ars t.els m (lbV ars vs pc t) ((r7 ars t.body m (lbV ars vs pc t) ((i5 ars pc t.value (vs,bd)).1.1,[])).1,[])).1,
  (i5 ars pc t.value (vs,bd)).1.2++[⟨3,0,⟨0,0,[]⟩,etE (i5 ars pc t.value (vs,bd)).2,0,(r7 ars t.body m (lbV ars vs pc t) ((i5 ars pc t.value (vs,bd)).1.1,[])).2,(r7 ars t.els m (lbV ars vs pc t) ((r7 ars t.body m (lbV ars vs pc t) ((i5 ars pc t.value (vs,bd)).1.1,[])).1,[])).2⟩]):=by
 rw[cF7]at h
 rw[show etE (i5 ars pc t.value (vs,bd)).2=(i5 ars pc t.value (vs,bd)).2 from c7.eta _]
 unfold lbV
 rw[show etE t.value=t.value from c7.eta _]at h ⊢
 exact cq4 k3 h
theorem cr5(k3:t.kind=3)(h:(!(i9 (j5 vs ars 5 (etE t.value))&&decide (j5 vs ars 5 (etE t.value)%2=1)))=true):(K0 ars t m pc (vs,bd)).1=(r7 ars t.els m (lbV ars vs pc t) ((r7 ars t.body m (lbV ars vs pc t) ((i5 ars pc t.value (vs,bd)).1.1,[])).1,[])).1:=by rw[cr6 k3 h]
theorem cr3(k3:t.kind=3)(h:(!(i9 (j5 vs ars 5 (etE t.value))&&decide (j5 vs ars 5 (etE t.value)%2=1)))=false):(K0 ars t m pc (vs,bd)).1=(r7 ars t.els (((i5 ars pc t.value (vs,bd)).1.1++[lbV ars vs pc t]).length:Int) (lbV ars vs pc t) (r7 ars t.body ((i5 ars pc t.value (vs,bd)).1.1.length:Int) (lbV ars vs pc t) (ifN (i5 ars pc t.value (vs,bd)) m (lbV ars vs pc t)))).1:=by rw[cr4 k3 h]
end
abbrev aJ4(ars:List Int)(t:c6)(m:Int)(pc:Int)(vs:List Int)(bd:List c6):=r7 ars t.body ((i5 ars pc t.value (vs,bd)).fst.fst.length:Int) (m7 pc (j5 vs ars 5 (A0 t.value))) ((i5 ars pc t.value (vs,bd)).fst.fst++[m7 pc (j5 vs ars 5 (A0 t.value))]++[m7 pc (j5 vs ars 5 (A0 t.value))],(i5 ars pc t.value (vs,bd)).fst.snd++[Y5 ((i5 ars pc t.value (vs,bd)).fst.fst.length:Int) (A0 (E0 m (c7.mk (i5 ars pc t.value (vs,bd)).snd.kind (i5 ars pc t.value (vs,bd)).snd.value (i5 ars pc t.value (vs,bd)).snd.kids) (c7.mk 1 0 [])))]++[Y5 (((i5 ars pc t.value (vs,bd)).fst.fst++[m7 pc (j5 vs ars 5 (A0 t.value))]).length:Int) (A0 (E0 m (c7.mk 9 0 ([c7.mk 2 ((i5 ars pc t.value (vs,bd)).fst.fst.length:Int) []]++([c7.mk 1 0 []]++[]))) (c7.mk 1 0 [])))])
abbrev H3(ars:List Int)(t:c6)(vs:List Int):=j5 vs ars 5 (A0 t.value)
abbrev aY8(ars:List Int)(t:c6)(pc:Int)(vs:List Int)(bd:List c6):=A0 (i5 ars pc t.value (vs,bd)).snd
abbrev as1(ars:List Int)(t:c6)(m:Int)(pc:Int)(vs:List Int)(bd:List c6):=r7 ars t.body m (m7 pc (H3 ars t vs)) ((i5 ars pc t.value (vs,bd)).fst.fst,[])
abbrev as0(ars:List Int)(t:c6)(m:Int)(pc:Int)(vs:List Int)(bd:List c6):=r7 ars t.els m (m7 pc (H3 ars t vs)) ((as1 ars t m pc vs bd).fst,[])
abbrev aY9(ars:List Int)(t:c6)(m:Int)(pc:Int)(vs:List Int)(bd:List c6):=A0 (E0 m (aY8 ars t pc vs bd) (c7.mk 1 0 []))
abbrev V9:It:=.box [.v (.slice none 0 0),.v (.slice none 0 0),.v (.slice none 0 0),.v (.slice none 0 0)]
abbrev U8(ars:List Int)(t:c6)(r0:List It):List It:=.dead::dI ars::.dead::dE t.index.kids::dE t.value.kids::dT t.body::dT t.els::r0
abbrev Y0(ars:List Int)(t:c6)(pc:Int)(vs:List Int)(r0:List (Nat×AV)):List (Nat×AV):=(3,iA pc)::(4,.ptr 7 0)::(5,.ptr 8 0)::(8,.ptr 9 0)::(9,iA (H3 ars t vs))::r0
abbrev bi9(ars:List Int)(t:c6)(pc:Int)(vs:List Int)(bd:List c6)(r0:List It):List It:=.box (sL t 3)::V9::.box [iA (i5 ars pc t.value (vs,bd)).snd.kind,iA (i5 ars pc t.value (vs,bd)).snd.value,.ref 12]::.row 98 (D.stmts (i5 ars pc t.value (vs,bd)).fst.snd)::dE (i5 ars pc t.value (vs,bd)).snd.kids::r0
theorem cb5(ars:List Int)(nv dd:Nat)(t:c6)(k3:t.kind=3)(hh:G3 nv ars.length t=true)(hbb:t.body.all (j9 nv ars.length dd)=true)(hbe:t.els.all (j9 nv ars.length dd)=true)
    (hB:∀(tt:List c6) (m pc:Int) (vs:List Int) (bd:List c6),tt.all (j9 nv ars.length dd)=true->nv<=vs.length->vs.length+4*j6 tt<=90000->j6 bd+130*j6 tt<=600000->j8.ok Tryz.prog (lbC ars m pc vs bd tt))
    (hI:∀(tt:List c6) (m pc:Int) (vs:List Int) (bd:List c6),tt.all (j9 nv ars.length dd)=true->nv<=vs.length->vs.length+4*j6 tt<=90000->130*j6 tt<=600000->j8.ok Tryz.prog (b16 ars m pc vs bd tt))
    (m pc:Int) (vs:List Int) (bd:List c6) (hv:nv<=vs.length) (r1:vs.length+4*(1+N5 t)<=90000) (r2:j6 bd+130*(1+N5 t)<=600000):j8.ok Tryz.prog (cq7 ars m pc vs bd t):=by
  refine D9 116 Tryz.func133 [.row 3 (D.ints vs),dI ars,.row 98 (D.stmts bd),dE t.index.kids,dE t.value.kids,dT t.body,dT t.els] [(0,.agg [.ref 0,.ref 1,.v (.slice none 0 0),.ref 2]),(1,sA t 3),(2,iA m),(3,iA pc)] fun G=>?_
  have hsz:N5 t=C0 t.index+C0 t.value+j6 t.body+j6 t.els:=by cases t;rfl
  have hsh:=bR2 (vs:=vs) hh k3 hv;have hbd:=ce8 (pc:=pc) (bd:=bd) hh k3 hv r1 r2;refine wp_seq (j7 G f8 [0,1,2,3,4,5,6,7,15,23] [.row 3 (D.ints vs),dI ars,.row 98 (D.stmts bd),dE t.index.kids,dE t.value.kids,dT t.body,dT t.els,.box [.ref 0,.ref 1,.v (.slice none 0 0),.ref 2],.box (sL t 3),V9] [(2,iA m),(3,iA pc),(4,.ptr 7 0),(5,.ptr 8 0),(8,.ptr 9 0)] fun G=>b6 (wp_seq (l6 G (x6 4 [0,1,4] (j8.lend (ac5 vs ars t.value.kind t.value.value t.value.kids ai) [.row 3])) [(9,iA (H3 ars t vs))] fun G=>b6 (wp_seq (j7 G f8 [0,1,2,3,4,5,6,7,8,9,18] [.row 3 (D.ints vs),dI ars,.row 98 (D.stmts bd),dE t.index.kids,dE t.value.kids,dT t.body,dT t.els,.box [.ref 0,.ref 1,.v (.slice none 0 0),.ref 2],.box (sL t 3),V9,.box [iA 0,iA 0,.v (.slice none 0 0)]] ((2,iA m)::(Y0 ars t pc vs [(10,.ptr 10 0)])) fun G=>b6 (wp_seq (j7 G (x6 4 [0,1,2,4] (bg8 ars pc t.value vs bd ai al al)) [0,1,2,3,4,5,6,7,8,9,10,43,44,45] (U8 ars t [.box [.ref 11,.ref 1,.v (.slice none 0 0),.ref 12],.box (sL t 3),V9,.box [iA (i5 ars pc t.value (vs,bd)).snd.kind,iA (i5 ars pc t.value (vs,bd)).snd.value,.ref 13],.row 3 (D.ints (i5 ars pc t.value (vs,bd)).fst.fst),.row 98 (D.stmts (i5 ars pc t.value (vs,bd)).fst.snd),dE (i5 ars pc t.value (vs,bd)).snd.kids]) ((2,iA m)::(Y0 ars t pc vs [(10,.ptr 10 0)])) fun G=>b6 (wp_seq (wp_seq (l6 G (x6 1 [] (M9 (j5 vs ars 5 (A0 t.value)))) [(31,.v (.bool !(i9 (H3 ars t vs)&&decide (j5 vs ars 5 (A0 t.value)%2=1))))] fun G=>b6 ?_))))))))));cases h0:(!(i9 (j5 vs ars (5:Nat) (A0 t.value))&&decide (j5 vs ars (5:Nat) (A0 t.value)%(2:Int)=1)))
  ·
   have q0:((i9 (j5 vs ars 5 (A0 t.value)))=true)/\(j5 vs ars 5 (A0 t.value)%2=1):=(fun hq=>And.imp (fun hq=>(hq)) (fun hq=>of_decide_eq_true hq) (Bool.and_eq_true_iff.1 hq)) (Eq.mp (cG1 _) h0);refine rF G _ h0 (wp_skip (b6 (wp_seq (l6 G f8 [(13,iA 0),(14,iA 0)] fun G=>b6 (wp_seq (j7 G (x6 4 [11,1,12] (ap5 ((i5 ars pc t.value (vs,bd)).fst.fst) ars ((i5 ars pc t.value (vs,bd)).fst.snd) (m7 pc (j5 vs ars 5 (A0 t.value))) al)) [0,1,2,3,4,5,6,7,8,9,10,12,13,46] (U8 ars t (.box [.ref 13,.ref 1,.v (.slice none 0 0),.ref 11]::(bi9 ars t pc vs bd [.row 3 (D.ints ((i5 ars pc t.value (vs,bd)).fst.fst++[m7 pc (H3 ars t vs)]))]))) ((2,iA m)::(Y0 ars t pc vs [(10,.ptr 10 0),(13,iA ((i5 ars pc t.value (vs,bd)).fst.fst.length:Int)),(14,iA 0)])) fun G=>b6 (wp_seq (af5 G (I7 (y7 4 [] (M7 0) (y7 5 [12,46] (am8 m ((i5 ars pc t.value (vs,bd)).snd.kind) ((i5 ars pc t.value (vs,bd)).snd.value) 1 0 ((i5 ars pc t.value (vs,bd)).snd.kids) ([])) (y7 6 [13,1,11,54] (V7 ((i5 ars pc t.value (vs,bd)).fst.fst++[m7 pc (j5 vs ars 5 (A0 t.value))]) ars ((i5 ars pc t.value (vs,bd)).fst.snd) (((i5 ars pc t.value (vs,bd)).fst.fst.length:Int)) ((E0 m (A0 (i5 ars pc t.value (vs,bd)).snd) (c7.mk 1 0 [])).kind) ((E0 m (A0 (i5 ars pc t.value (vs,bd)).snd) (c7.mk 1 0 [])).value) ((E0 m (A0 (i5 ars pc t.value (vs,bd)).snd) (c7.mk 1 0 [])).kids) al) I6))) fz []) [0,0,0,0,0,28,63,127] [0,1,2,3,4,5,6,7,8,9,13,62] (U8 ars t [.box [.ref 10,.ref 1,.v (.slice none 0 0),.ref 11],.box (sL t 3),V9,.row 3 (D.ints ((i5 ars pc t.value (vs,bd)).fst.fst++[m7 pc (H3 ars t vs)])),.row 98 (D.stmts ((i5 ars pc t.value (vs,bd)).fst.snd++[Y5 ((i5 ars pc t.value (vs,bd)).fst.fst.length:Int) (aY9 ars t m pc vs bd)]))]) ((2,iA m)::(Y0 ars t pc vs [(13,iA ((i5 ars pc t.value (vs,bd)).fst.fst.length:Int)),(14,iA 0)])) fun G=>b6 (wp_seq (j7 G (x6 4 [10,1,11] (ap5 ((i5 ars pc t.value (vs,bd)).fst.fst++[m7 pc (j5 vs ars 5 (A0 t.value))]) ars ((i5 ars pc t.value (vs,bd)).fst.snd++[Y5 ((i5 ars pc t.value (vs,bd)).fst.fst.length:Int) (A0 (E0 m (c7.mk (i5 ars pc t.value (vs,bd)).snd.kind (i5 ars pc t.value (vs,bd)).snd.value (i5 ars pc t.value (vs,bd)).snd.kids) (c7.mk 1 0 [])))]) (m7 pc (j5 vs ars 5 (A0 t.value))) (by simp only[cE0,cE5,cE9];omega))) [0,1,2,3,4,5,6,7,8,9,11,44] (U8 ars t [.box [.ref 11,.ref 1,.v (.slice none 0 0),.ref 10],.box (sL t 3),V9,.row 98 (D.stmts ((i5 ars pc t.value (vs,bd)).fst.snd++[Y5 ((i5 ars pc t.value (vs,bd)).fst.fst.length:Int) (aY9 ars t m pc vs bd)])),.row 3 (D.ints ((i5 ars pc t.value (vs,bd)).fst.fst++[m7 pc (H3 ars t vs)]++[m7 pc (H3 ars t vs)]))]) ((2,iA m)::(Y0 ars t pc vs [(13,iA ((i5 ars pc t.value (vs,bd)).fst.fst.length:Int)),(14,iA (((i5 ars pc t.value (vs,bd)).fst.fst++[m7 pc (H3 ars t vs)]).length:Int))])) fun G=>?_))))))))))
   refine b6 (wp_seq (af5 G (I7 (y7 4 [] (ap4 (((i5 ars pc t.value (vs,bd)).fst.fst.length:Int))) (y7 5 [] (M7 0) (y7 7 [60] (ag1 9 ([c7.mk 2 ((i5 ars pc t.value (vs,bd)).fst.fst.length:Int) []]++([c7.mk 1 0 []]++[]))) (y7 8 [] (M7 0) (y7 9 [60,76] (am8 m 9 0 1 0 ([c7.mk 2 ((i5 ars pc t.value (vs,bd)).fst.fst.length:Int) []]++([c7.mk 1 0 []]++[])) ([])) (y7 10 [11,1,10,84] (V7 ((i5 ars pc t.value (vs,bd)).fst.fst++[m7 pc (j5 vs ars 5 (A0 t.value))]++[m7 pc (j5 vs ars 5 (A0 t.value))]) ars ((i5 ars pc t.value (vs,bd)).fst.snd++[Y5 ((i5 ars pc t.value (vs,bd)).fst.fst.length:Int) (A0 (E0 m (c7.mk (i5 ars pc t.value (vs,bd)).snd.kind (i5 ars pc t.value (vs,bd)).snd.value (i5 ars pc t.value (vs,bd)).snd.kids) (c7.mk 1 0 [])))]) ((((i5 ars pc t.value (vs,bd)).fst.fst++[m7 pc (j5 vs ars 5 (A0 t.value))]).length:Int)) ((E0 m (c7.mk 9 0 ([c7.mk 2 ((i5 ars pc t.value (vs,bd)).fst.fst.length:Int) []]++([c7.mk 1 0 []]++[]))) (c7.mk 1 0 [])).kind) ((E0 m (c7.mk 9 0 ([c7.mk 2 ((i5 ars pc t.value (vs,bd)).fst.fst.length:Int) []]++([c7.mk 1 0 []]++[]))) (c7.mk 1 0 [])).value) ((E0 m (c7.mk 9 0 ([c7.mk 2 ((i5 ars pc t.value (vs,bd)).fst.fst.length:Int) []]++([c7.mk 1 0 []]++[]))) (c7.mk 1 0 [])).kids) (by simp only[cE0,cE5,cE9];omega)) I6)))))) fz []) [0,0,0,0,8,24,56,120,248,508,1023,2047] [0,1,2,3,4,5,6,7,8,9,11,92] (U8 ars t [.box [.ref 10,.ref 1,.v (.slice none 0 0),.ref 11],.box (sL t 3),V9,.row 3 (D.ints ((i5 ars pc t.value (vs,bd)).fst.fst++[m7 pc (H3 ars t vs)]++[m7 pc (H3 ars t vs)])),.row 98 (D.stmts ((i5 ars pc t.value (vs,bd)).fst.snd++[Y5 ((i5 ars pc t.value (vs,bd)).fst.fst.length:Int) (aY9 ars t m pc vs bd)]++[Y5 (((i5 ars pc t.value (vs,bd)).fst.fst++[m7 pc (H3 ars t vs)]).length:Int) (A0 (E0 m (c7.mk 9 0 ([c7.mk 2 ((i5 ars pc t.value (vs,bd)).fst.fst.length:Int) []]++([c7.mk 1 0 []]++[]))) (c7.mk 1 0 [])))]))]) (Y0 ars t pc vs [(13,iA ((i5 ars pc t.value (vs,bd)).fst.fst.length:Int)),(14,iA (((i5 ars pc t.value (vs,bd)).fst.fst++[m7 pc (H3 ars t vs)]).length:Int))]) fun G=>b6 (wp_seq (j7 G (x6 7 [10,1,5,11] (hB t.body (((i5 ars pc t.value (vs,bd)).fst.fst.length:Int)) (m7 pc (j5 vs ars 5 (A0 t.value))) ((i5 ars pc t.value (vs,bd)).fst.fst++[m7 pc (j5 vs ars 5 (A0 t.value))]++[m7 pc (j5 vs ars 5 (A0 t.value))]) ((i5 ars pc t.value (vs,bd)).fst.snd++[Y5 ((i5 ars pc t.value (vs,bd)).fst.fst.length:Int) (A0 (E0 m (c7.mk (i5 ars pc t.value (vs,bd)).snd.kind (i5 ars pc t.value (vs,bd)).snd.value (i5 ars pc t.value (vs,bd)).snd.kids) (c7.mk 1 0 [])))]++[Y5 (((i5 ars pc t.value (vs,bd)).fst.fst++[m7 pc (j5 vs ars 5 (A0 t.value))]).length:Int) (A0 (E0 m (c7.mk 9 0 ([c7.mk 2 ((i5 ars pc t.value (vs,bd)).fst.fst.length:Int) []]++([c7.mk 1 0 []]++[]))) (c7.mk 1 0 [])))]) ai (by simp only[cE0,cE5,cE9];omega) (by simp only[cE0,cE5,cE9];omega) (cr0 hh k3 hv r1 r2))) [0,1,2,3,4,5,6,7,8,9,68,69] (U8 ars t [.box [.ref 10,.ref 1,.v (.slice none 0 0),.ref 11],.box (sL t 3),V9,.row 3 (D.ints (aJ4 ars t m pc vs bd).fst),.row 98 (D.stmts (aJ4 ars t m pc vs bd).snd)]) (Y0 ars t pc vs [(14,iA (((i5 ars pc t.value (vs,bd)).fst.fst++[m7 pc (H3 ars t vs)]).length:Int))]) fun G=>?_))))
   refine b6 (wp_seq (j7 G (x6 7 [10,1,6,11] (hB t.els ((((i5 ars pc t.value (vs,bd)).fst.fst++[m7 pc (j5 vs ars 5 (A0 t.value))]).length:Int)) (m7 pc (j5 vs ars 5 (A0 t.value))) ((r7 ars t.body ((i5 ars pc t.value (vs,bd)).fst.fst.length:Int) (m7 pc (j5 vs ars 5 (A0 t.value))) ((i5 ars pc t.value (vs,bd)).fst.fst++[m7 pc (j5 vs ars 5 (A0 t.value))]++[m7 pc (j5 vs ars 5 (A0 t.value))],(i5 ars pc t.value (vs,bd)).fst.snd++[Y5 ((i5 ars pc t.value (vs,bd)).fst.fst.length:Int) (A0 (E0 m (c7.mk (i5 ars pc t.value (vs,bd)).snd.kind (i5 ars pc t.value (vs,bd)).snd.value (i5 ars pc t.value (vs,bd)).snd.kids) (c7.mk 1 0 [])))]++[Y5 (((i5 ars pc t.value (vs,bd)).fst.fst++[m7 pc (j5 vs ars 5 (A0 t.value))]).length:Int) (A0 (E0 m (c7.mk 9 0 ([c7.mk 2 ((i5 ars pc t.value (vs,bd)).fst.fst.length:Int) []]++([c7.mk 1 0 []]++[]))) (c7.mk 1 0 [])))])).fst) ((r7 ars t.body ((i5 ars pc t.value (vs,bd)).fst.fst.length:Int) (m7 pc (j5 vs ars 5 (A0 t.value))) ((i5 ars pc t.value (vs,bd)).fst.fst++[m7 pc (j5 vs ars 5 (A0 t.value))]++[m7 pc (j5 vs ars 5 (A0 t.value))],(i5 ars pc t.value (vs,bd)).fst.snd++[Y5 ((i5 ars pc t.value (vs,bd)).fst.fst.length:Int) (A0 (E0 m (c7.mk (i5 ars pc t.value (vs,bd)).snd.kind (i5 ars pc t.value (vs,bd)).snd.value (i5 ars pc t.value (vs,bd)).snd.kids) (c7.mk 1 0 [])))]++[Y5 (((i5 ars pc t.value (vs,bd)).fst.fst++[m7 pc (j5 vs ars 5 (A0 t.value))]).length:Int) (A0 (E0 m (c7.mk 9 0 ([c7.mk 2 ((i5 ars pc t.value (vs,bd)).fst.fst.length:Int) []]++([c7.mk 1 0 []]++[]))) (c7.mk 1 0 [])))])).snd) ai ((ce7 hbb hh k3 hv r1 r2).1) ((ce7 hbb hh k3 hv r1 r2).2.1) ((ce7 hbb hh k3 hv r1 r2).2.2))) [0,1,2,3,4,5,6,9,68,69] (U8 ars t [.box [.ref 8,.ref 1,.v (.slice none 0 0),.ref 9],.row 3 (D.ints (r7 ars t.els (((i5 ars pc t.value (vs,bd)).fst.fst++[m7 pc (H3 ars t vs)]).length:Int) (m7 pc (H3 ars t vs)) (aJ4 ars t m pc vs bd)).fst),.row 98 (D.stmts (r7 ars t.els (((i5 ars pc t.value (vs,bd)).fst.fst++[m7 pc (H3 ars t vs)]).length:Int) (m7 pc (H3 ars t vs)) (aJ4 ars t m pc vs bd)).snd)]) [(8,.ptr 7 0)] fun G=>?_))
   refine b6 (wp_ret ?_);exact G7 G [0,1,2,3,4,5,6,8,9] (by show _=mR [0,1,2,3,4,5,6,8,9] [.dead,dI ars,.dead,dE t.index.kids,dE t.value.kids,dT t.body,dT t.els,.row 3 (D.ints (K0 ars t m pc (vs,bd)).fst),.row 98 (D.stmts (K0 ars t m pc (vs,bd)).snd)];have e1:((K0 ars t m pc (vs,bd)).fst:List Int)=((r7 ars t.els (((i5 ars pc t.value (vs,bd)).fst.fst++[m7 pc (j5 vs ars 5 (A0 t.value))]).length:Int) (m7 pc (j5 vs ars 5 (A0 t.value))) (r7 ars t.body ((i5 ars pc t.value (vs,bd)).fst.fst.length:Int) (m7 pc (j5 vs ars 5 (A0 t.value))) ((i5 ars pc t.value (vs,bd)).fst.fst++[m7 pc (j5 vs ars 5 (A0 t.value))]++[m7 pc (j5 vs ars 5 (A0 t.value))],(i5 ars pc t.value (vs,bd)).fst.snd++[Y5 ((i5 ars pc t.value (vs,bd)).fst.fst.length:Int) (A0 (E0 m (c7.mk (i5 ars pc t.value (vs,bd)).snd.kind (i5 ars pc t.value (vs,bd)).snd.value (i5 ars pc t.value (vs,bd)).snd.kids) (c7.mk 1 0 [])))]++[Y5 (((i5 ars pc t.value (vs,bd)).fst.fst++[m7 pc (j5 vs ars 5 (A0 t.value))]).length:Int) (A0 (E0 m (c7.mk 9 0 ([c7.mk 2 ((i5 ars pc t.value (vs,bd)).fst.fst.length:Int) []]++([c7.mk 1 0 []]++[]))) (c7.mk 1 0 [])))]))).fst):=(cr3 k3 ab);have e2:((K0 ars t m pc (vs,bd)).snd:List c6)=((r7 ars t.els (((i5 ars pc t.value (vs,bd)).fst.fst++[m7 pc (H3 ars t vs)]).length:Int) (m7 pc (H3 ars t vs)) (aJ4 ars t m pc vs bd)).snd):=(congrArg Prod.snd (cr4 k3 ab));(first|rw[e1,e2]|simp only[e1,e2])<;>rfl)
  have q0:((i9 (j5 vs ars 5 (A0 t.value)))=false)\/(¬(j5 vs ars 5 (A0 t.value)%2=1)):=(fun hq=>Or.imp (fun hq=>(hq)) (fun hq=>of_decide_eq_false hq) (Bool.and_eq_false_iff.1 hq)) (Eq.mp (cF7 _) h0);refine rT G _ h0 (wp_seq (j7 G f8 [0,1,2,3,4,5,6,7,8,9,10,11,12,13,14,22] (U8 ars t [.box [.ref 11,.ref 1,.v (.slice none 0 0),.ref 12],.box (sL t 3),V9,.box [iA (i5 ars pc t.value (vs,bd)).snd.kind,iA (i5 ars pc t.value (vs,bd)).snd.value,.ref 13],.row 3 (D.ints (i5 ars pc t.value (vs,bd)).fst.fst),.row 98 (D.stmts (i5 ars pc t.value (vs,bd)).fst.snd),dE (i5 ars pc t.value (vs,bd)).snd.kids,.tree (D.stmts []),.tree (D.stmts [])]) ((2,iA m)::(Y0 ars t pc vs [(10,.ptr 10 0),(11,.tref 14),(12,.tref 15)])) fun G=>b6 (wp_seq (j7 G (x6 7 [11,1,12,5] (hI t.body m (m7 pc (j5 vs ars 5 (A0 t.value))) ((i5 ars pc t.value (vs,bd)).fst.fst) ((i5 ars pc t.value (vs,bd)).fst.snd) ai al al al)) [0,1,2,3,4,5,6,7,8,9,10,12,13,15,72,73] (U8 ars t (.box [.ref 14,.ref 1,.v (.slice none 0 0),.ref 11]::(bi9 ars t pc vs bd [.tree (D.stmts []),.row 3 (D.ints (as1 ars t m pc vs bd).fst),dT (as1 ars t m pc vs bd).snd]))) ((2,iA m)::(Y0 ars t pc vs [(10,.ptr 10 0),(11,.ref 15),(12,.tref 13)])) fun G=>b6 (wp_seq (j7 G (x6 7 [14,1,11,6] (hI t.els m (m7 pc (j5 vs ars 5 (A0 t.value))) ((r7 ars t.body m (m7 pc (j5 vs ars 5 (A0 t.value))) ((i5 ars pc t.value (vs,bd)).fst.fst,[])).fst) ((i5 ars pc t.value (vs,bd)).fst.snd) ai ((cr2 hbb hh k3 hv r1 r2).1) ((cr2 hbb hh k3 hv r1 r2).2) al)) [0,1,2,3,4,5,6,7,8,9,10,11,12,15,72,73] (U8 ars t (.box [.ref 14,.ref 1,.v (.slice none 0 0),.ref 11]::(bi9 ars t pc vs bd [dT (as1 ars t m pc vs bd).snd,.row 3 (D.ints (as0 ars t m pc vs bd).fst),dT (as0 ars t m pc vs bd).snd]))) ((2,iA m)::(Y0 ars t pc vs [(10,.ptr 10 0),(11,.ref 13),(12,.ref 15)])) fun G=>b6 (wp_seq (R9 G f8 [0,1,2,3,4,5,6,7,8,9,10,12,14,72] (U8 ars t [.box [.ref 12,.ref 1,.v (.slice none 0 0),.ref 13],.box (sL t 3),V9,.box [iA (i5 ars pc t.value (vs,bd)).snd.kind,iA (i5 ars pc t.value (vs,bd)).snd.value,.ref 11],dE (i5 ars pc t.value (vs,bd)).snd.kids,.row 3 (D.ints (as0 ars t m pc vs bd).fst),.row 98 (D.stmts ((i5 ars pc t.value (vs,bd)).fst.snd++([c6.mk 3 0 (c7.mk 0 0 []) (aY8 ars t pc vs bd) 0 (as1 ars t m pc vs bd).snd (as0 ars t m pc vs bd).snd]++[])))]) ((2,iA m)::(Y0 ars t pc vs [(10,.ptr 10 0)])) (aP ((i5 ars pc t.value (vs,bd)).fst.snd.length+1) 152 []) (aK al cF1) fun G=>?_))))))))
  refine b6 (wp_seq (j7 G f8 (rg 14) (U8 ars t [.box [.ref 12,.ref 1,.v (.slice none 0 0),.ref 13],.box (sL t 3),.box [.ref 12,.ref 1,.v (.slice none 0 0),.ref 13],.box [iA (i5 ars pc t.value (vs,bd)).snd.kind,iA (i5 ars pc t.value (vs,bd)).snd.value,.ref 11],dE (i5 ars pc t.value (vs,bd)).snd.kids,.row 3 (D.ints (as0 ars t m pc vs bd).fst),.row 98 (D.stmts ((i5 ars pc t.value (vs,bd)).fst.snd++([c6.mk 3 0 (c7.mk 0 0 []) (aY8 ars t pc vs bd) 0 (as1 ars t m pc vs bd).snd (as0 ars t m pc vs bd).snd]++[])))]) ((2,iA m)::(Y0 ars t pc vs [(10,.ptr 10 0)])) fun G=>b6 (wp_ret (l7 ?_))));exact G7 G [0,1,2,3,4,5,6,12,13] (by show _=mR [0,1,2,3,4,5,6,12,13] (U8 ars t [.row 3 (D.ints (K0 ars t m pc (vs,bd)).fst),.row 98 (D.stmts (K0 ars t m pc (vs,bd)).snd)]);have e1:((K0 ars t m pc (vs,bd)).fst:List Int)=((r7 ars t.els m (m7 pc (j5 vs ars 5 (A0 t.value))) ((r7 ars t.body m (m7 pc (j5 vs ars 5 (A0 t.value))) ((i5 ars pc t.value (vs,bd)).fst.fst,[])).fst,[])).fst):=(cr5 k3 ab);have e2:((K0 ars t m pc (vs,bd)).snd:List c6)=((i5 ars pc t.value (vs,bd)).fst.snd++([c6.mk 3 0 (c7.mk 0 0 []) (aY8 ars t pc vs bd) 0 (as1 ars t m pc vs bd).snd (as0 ars t m pc vs bd).snd]++[])):=(congrArg Prod.snd (cr6 k3 ab));(first|rw[e1,e2]|simp only[e1,e2])<;>rfl)
abbrev xB(ars:List Int)(m pc:Int)(vs:List Int)(bd:List c6)(ss:List c6)(k:Nat):LnS:=r7 ars (ss.take k) m pc (vs,bd)
theorem bX1{ss:List c6}{k:Nat}(hk:k<ss.length):j6 (ss.take k)+(1+N5 (ss.getD k cD4))<=j6 ss:=by
 have h1:=z9 (ss.take (k+1)) (ss.drop (k+1))
 rw[List.take_append_drop,o0 _ _ hk,z9, <-m6 (d:=cD4) hk]at h1
 simp only[j6]at h1
 omega
section
variable{ars vs:List Int}{bd:List c6}{m pc:Int}{ss:List c6}{nv d k:Nat}
theorem ck0(hs:ss.all (j9 nv ars.length d)=true)(hv:nv<=vs.length):GrS (j6 (ss.take k)) (vs,bd) (xB ars m pc vs bd ss k):=
 a38 ars (ss.take k) m pc (vs,bd) (cE2.2 fun x hx=>cE2.1 hs x (List.mem_of_mem_take hx)) hv
theorem aS0(hs:ss.all (j9 nv ars.length d)=true)(hv:nv<=vs.length)(r1:vs.length+4*j6 ss<=90000)(r2:j6 bd+130*j6 ss<=600000)(hk:k<ss.length):nv<=(xB ars m pc vs bd ss k).1.length/\(xB ars m pc vs bd ss k).1.length+4*(1+N5 (ss.getD k cD4))<=90000/\j6 (xB ars m pc vs bd ss k).2+130*(1+N5 (ss.getD k cD4))<=600000:=by
 have g:=ck0 (bd:=bd) (m:=m) (pc:=pc) (k:=k) hs hv
 have h1:=bX1 hk
 have a:=g.lo;have b:=g.hi;have c:=g.st
 simp only at a b c
 omega
abbrev yB(ars:List Int)(m pc:Int)(vs:List Int)(bd:List c6)(ss:List c6)(k:Nat):LnS×c7:=i5 ars pc (ss.getD k cD4).value ((xB ars m pc vs bd ss k).1,(xB ars m pc vs bd ss k).2)
theorem a77(hs:ss.all (j9 nv ars.length (d+1))=true)(hv:nv<=vs.length)(r1:vs.length+4*j6 ss<=90000)(r2:j6 bd+130*j6 ss<=600000)(hk:k<ss.length)(h4:¬(ss.getD k cD4).kind=4):
  i7 (xB ars m pc vs bd ss k).1.length ars.length 5 (ss.getD k cD4).value=true/\(xB ars m pc vs bd ss k).1.length+(1+C0 (ss.getD k cD4).value)<=100000/\j6 (xB ars m pc vs bd ss k).2+40*(1+C0 (ss.getD k cD4).value)<=700000/\
  nv<=(yB ars m pc vs bd ss k).1.1.length/\(yB ars m pc vs bd ss k).1.1.length<=100000/\(yB ars m pc vs bd ss k).1.2.length+10<=700000/\i7 (yB ars m pc vs bd ss k).1.1.length ars.length 5 (yB ars m pc vs bd ss k).2=true:=by
 have hb:=aS0 (m:=m) (pc:=pc) hs hv r1 r2 hk
 have hh:=(aP7 hs hk).1
 have hsz:N5 (ss.getD k cD4)=C0 (ss.getD k cD4).index+C0 (ss.getD k cD4).value+j6 (ss.getD k cD4).body+j6 (ss.getD k cD4).els:=by
  generalize ss.getD k cD4=s;cases s;rfl
 have hsh:=H5 (na:=ars.length) hb.1 5 _ (C3 hh h4)
 obtain⟨g,g2,-⟩:=ao4 ars pc ars.length 5 (ss.getD k cD4).value (xB ars m pc vs bd ss k) hsh
 have a:(xB ars m pc vs bd ss k).1.length<=(yB ars m pc vs bd ss k).1.1.length:=g.lo
 have b:(yB ars m pc vs bd ss k).1.1.length<=(xB ars m pc vs bd ss k).1.length+(1+C0 (ss.getD k cD4).value):=g.hi
 have c:j6 (yB ars m pc vs bd ss k).1.2<=j6 (xB ars m pc vs bd ss k).2+40*(1+C0 (ss.getD k cD4).value):=g.st
 have h5:=O2 (yB ars m pc vs bd ss k).1.2
 exact⟨hsh,al,al,al,al,al,g2⟩
theorem bI0(hs:ss.all (j9 nv ars.length (d+1))=true)(hk:k<ss.length)(h2:(ss.getD k cD4).kind=2){n:Nat}(hn:nv<=n):i7 n ars.length 5 (ss.getD k cD4).index=true/\C0 (ss.getD k cD4).index<=1048576:=by
 obtain⟨q1,-,q3⟩:=aO8 (aP7 hs hk).1 h2
 exact⟨H5 hn 5 _ q3,by rw[aH6 q1];omega⟩
theorem aK2(hk:k<ss.length):xB ars m pc vs bd ss (k+1)=K0 ars (ss.getD k cD4) m pc (xB ars m pc vs bd ss k):=bD8 hk
theorem ak8(s:c6):j6 s.body<=N5 s/\j6 s.els<=N5 s/\C0 s.value<=N5 s:=by
 cases s;simp only[N5,c6.body,c6.els,c6.value];omega
abbrev sK(ss:List c6)(k:Nat):c6:=ss.getD k cD4
theorem aJ2(hs:ss.all (j9 nv ars.length (d+1))=true)(hk:k<ss.length)(h3:¬(sK ss k).kind=3)(h4:¬(sK ss k).kind=4)(h5:¬(sK ss k).kind=5)(h1:¬(sK ss k).kind=1):(sK ss k).kind=2:=by
 by_cases h2:(sK ss k).kind=2
 ·exact h2
 have hh:=(aP7 hs hk).1
 rw[ar4 ⟨h1,h2,h3,h4,h5⟩]at hh;cases hh
theorem ck4(hk:k<ss.length)(h4:(sK ss k).kind=4):xB ars m pc vs bd ss (k+1)=((r7 ars (sK ss k).body m pc ((xB ars m pc vs bd ss k).1,[])).1,(xB ars m pc vs bd ss k).2++[⟨4,0,⟨0,0,[]⟩,⟨0,0,[]⟩,(sK ss k).count,(r7 ars (sK ss k).body m pc ((xB ars m pc vs bd ss k).1,[])).2,[]⟩]):=(aK2 hk).trans (ln4 h4)
theorem ck2(hk:k<ss.length)(h5:(sK ss k).kind=5):xB ars m pc vs bd ss (k+1)=((yB ars m pc vs bd ss k).1.1,(yB ars m pc vs bd ss k).1.2++[⟨5,(sK ss k).target,⟨0,0,[]⟩,etE (yB ars m pc vs bd ss k).2,0,[],[]⟩]):=by
 rw[show etE (yB ars m pc vs bd ss k).2=(yB ars m pc vs bd ss k).2 from c7.eta _]
 exact(aK2 hk).trans (ln5 h5)
theorem ck7(hk:k<ss.length)(h1:(sK ss k).kind=1):xB ars m pc vs bd ss (k+1)=((yB ars m pc vs bd ss k).1.1,(yB ars m pc vs bd ss k).1.2++[Y5 (sK ss k).target (etE (E0 m (etE (yB ars m pc vs bd ss k).2) ⟨2,(sK ss k).target,[]⟩))]):=by
 rw[show etE (yB ars m pc vs bd ss k).2=(yB ars m pc vs bd ss k).2 from c7.eta _,show ∀e,etE e=e from c7.eta]
 exact(aK2 hk).trans (ln1 h1)
theorem b61(hk:k<ss.length)(h2:(sK ss k).kind=2)(h:(i9 (j5 (yB ars m pc vs bd ss k).1.1 ars 5 (etE (sK ss k).index))&&decide (j5 (yB ars m pc vs bd ss k).1.1 ars 5 (etE (sK ss k).index)%2=1))=false):xB ars m pc vs bd ss (k+1)=((yB ars m pc vs bd ss k).1.1,(yB ars m pc vs bd ss k).1.2++[⟨2,(sK ss k).target,etE (sK ss k).index,etE (E0 m (etE (yB ars m pc vs bd ss k).2) ⟨3,(sK ss k).target,[etE (sK ss k).index]⟩),0,[],[]⟩]):=by
 simp only[show ∀e,etE e=e from c7.eta]at h ⊢
 exact(aK2 hk).trans (cq6 h2 h)
theorem b60(hk:k<ss.length)(h2:(sK ss k).kind=2)(h:(i9 (j5 (yB ars m pc vs bd ss k).1.1 ars 5 (etE (sK ss k).index))&&decide (j5 (yB ars m pc vs bd ss k).1.1 ars 5 (etE (sK ss k).index)%2=1))=true):xB ars m pc vs bd ss (k+1)=((yB ars m pc vs bd ss k).1.1++[m7 (j5 (yB ars m pc vs bd ss k).1.1 ars 5 (etE (yB ars m pc vs bd ss k).2)) pc],(yB ars m pc vs bd ss k).1.2++[Y5 ((yB ars m pc vs bd ss k).1.1.length:Int) (etE (yB ars m pc vs bd ss k).2)]++stL ((yB ars m pc vs bd ss k).1.1.length:Int) (sK ss k).target (etE (sK ss k).index) m 4):=by
 simp only[show ∀e,etE e=e from c7.eta]at h ⊢
 exact(aK2 hk).trans (cq5 h2 h)
theorem ck3(hk:k<ss.length)(h4:(sK ss k).kind=4):(xB ars m pc vs bd ss (k+1)).1=(r7 ars (sK ss k).body m pc ((xB ars m pc vs bd ss k).1,[])).1:=by rw[ck4 hk h4]
theorem ck1(hk:k<ss.length)(h5:(sK ss k).kind=5):(xB ars m pc vs bd ss (k+1)).1=(yB ars m pc vs bd ss k).1.1:=by rw[ck2 hk h5]
theorem ck6(hk:k<ss.length)(h1:(sK ss k).kind=1):(xB ars m pc vs bd ss (k+1)).1=(yB ars m pc vs bd ss k).1.1:=by rw[ck7 hk h1]
theorem ck5(hk:k<ss.length)(h2:(sK ss k).kind=2)(h:(i9 (j5 (yB ars m pc vs bd ss k).1.1 ars 5 (etE (sK ss k).index))&&decide (j5 (yB ars m pc vs bd ss k).1.1 ars 5 (etE (sK ss k).index)%2=1))=false):(xB ars m pc vs bd ss (k+1)).1=(yB ars m pc vs bd ss k).1.1:=by rw[b61 hk h2 h]
theorem bI6(hk:ss.length<=k):r7 ars ss m pc (vs,bd)=xB ars m pc vs bd ss k:=by unfold xB;rw[cF0 hk]
end
abbrev Z8(ars:List Int)(ss:List c6)(m:Int)(pc:Int)(vs:List Int)(bd:List c6)(k:Nat):=A0 (i5 ars pc (ss.getD k cD4).value (xB ars m pc vs bd ss k)).snd
abbrev B5(ars:List Int)(ss:List c6)(m:Int)(pc:Int)(vs:List Int)(bd:List c6)(k:Nat):=i5 ars pc (ss.getD k cD4).value (xB ars m pc vs bd ss k)
abbrev bs4(ars:List Int)(ss:List c6)(m:Int)(pc:Int)(vs:List Int)(bd:List c6)(k:Nat):=E0 m (Z8 ars ss m pc vs bd k) (c7.mk 3 (ss.getD k cD4).target [A0 (ss.getD k cD4).index])
abbrev an5(ss:List c6)(k:Nat):=A0 (ss.getD k cD4).index
abbrev an4:It:=.box [.v (.slice none 0 0),.v (.slice none 0 0),.v (.slice none 0 0),.v (.slice none 0 0)]
abbrev bW3:It:=.box [.ref 6,.ref 1,.v (.slice none 0 0),.ref 7]
abbrev N0(m:Int)(pc:Int)(r0:List (Nat×AV)):List (Nat×AV):=(1,.ref 2)::(2,iA m)::(3,iA pc)::(4,.ptr 4 0)::(8,.ptr 5 0)::r0
abbrev ar7(ss:List c6)(k:Nat)(r0:List It):List It:=dE (ss.getD k cD4).index.kids::dE (ss.getD k cD4).value.kids::dT (ss.getD k cD4).body::dT (ss.getD k cD4).els::r0
abbrev ae1(ars:List Int)(ss:List c6)(r0:List It):List It:=.dead::dI ars::dT ss::.dead::bW3::an4::r0
theorem aV7(ars:List Int)(nv dd:Nat)(ss:List c6)(hs:ss.all (j9 nv ars.length (dd+1))=true)
    (hF:∀(t:c6),t.kind=3->G3 nv ars.length t=true->t.body.all (j9 nv ars.length dd)=true->t.els.all (j9 nv ars.length dd)=true->0<ss.length->∀(m pc:Int) (vs:List Int) (bd:List c6),nv<=vs.length->vs.length+4*(1+N5 t)<=90000->j6 bd+130*(1+N5 t)<=600000->j8.ok Tryz.prog (cq7 ars m pc vs bd t))
    (hI:∀(tt:List c6) (m pc:Int) (vs:List Int) (bd:List c6),tt.all (j9 nv ars.length dd)=true->0<ss.length->nv<=vs.length->vs.length+4*j6 tt<=90000->130*j6 tt<=600000->j8.ok Tryz.prog (b16 ars m pc vs bd tt))
    (m pc:Int) (vs:List Int) (bd:List c6) (hv:nv<=vs.length) (r1:vs.length+4*j6 ss<=90000) (r2:j6 bd+130*j6 ss<=600000):j8.ok Tryz.prog (lbC ars m pc vs bd ss):=by
  have hcp:=b35;refine D9 123 Tryz.func91 [.row 3 (D.ints vs),dI ars,dT ss,.row 98 (D.stmts bd)] [(0,.agg [.ref 0,.ref 1,.v (.slice none 0 0),.ref 3]),(1,.ref 2),(2,iA m),(3,iA pc)] fun G=>?_;have hl:=O2 ss;refine wp_seq (j7 G f8 [0,1,2,3,4,12] [.row 3 (D.ints vs),dI ars,dT ss,.row 98 (D.stmts bd),.box [.ref 0,.ref 1,.v (.slice none 0 0),.ref 3],an4] (N0 m pc []) fun G=>b6 (wp_seq (wp_seq (C6 G f8 (N0 m pc [(9,iA 0)]) fun G=>b6 (wp_block ?_)))));obtain⟨ρ,G⟩:=G.shift 0 6 [.dead,dI ars,dT ss,.row 98 (D.stmts bd),.box [.ref 6,.ref 1,.v (.slice none 0 0),.ref 3],.box [.v (.slice none 0 0),.v (.slice none 0 0),.v (.slice none 0 0),.v (.slice none 0 0)],.row 3 (D.ints vs)] (N0 m pc [(9,iA 0)]);obtain⟨ρ,G⟩:=G.shift 3 7 [.dead,dI ars,dT ss,.dead,.box [.ref 6,.ref 1,.v (.slice none 0 0),.ref 7],.box [.v (.slice none 0 0),.v (.slice none 0 0),.v (.slice none 0 0),.v (.slice none 0 0)],.row 3 (D.ints vs),.row 98 (D.stmts bd)] (N0 m pc [(9,iA 0)]);refine t9 (κ:=Nat) (fun k=>k<=ss.length) (fun k=>ss.length-k) (fun k=>[.dead,dI ars,dT ss,.dead,.box [.ref 6,.ref 1,.v (.slice none 0 0),.ref 7],.box [.v (.slice none 0 0),.v (.slice none 0 0),.v (.slice none 0 0),.v (.slice none 0 0)],.row 3 (.ints (xB ars m pc vs bd ss k).1),.row 98 (.stmts (xB ars m pc vs bd ss k).2)]) (fun k=>[(1,.ref 2),(2,iA m),(3,iA pc),(4,.ptr 4 0),(8,.ptr 5 0),(9,iA k)]) 0 al (x7.at G _ _) ?_;clear G;intro k ρ a w hp G;replace G:=x7.at G (ae1 ars ss [.row 3 (D.ints (xB ars m pc vs bd ss k).fst),.row 98 (D.stmts (xB ars m pc vs bd ss k).snd)]) (N0 m pc [(9,iA k)]);refine wp_seq (wp_seq (l6 G f8 [(16,bA (decide ((k:Int)<ss.length)))] fun G=>b6 (rcD G (fun h0 q0=>?_) fun h0 q0=>?_)))
  · refine wp_exit (t4 (t4 (t3 (b6 (wp_seq (j7 G f8 [0,1,2,3,5,6,7] [.dead,dI ars,dT ss,.dead,.box [.ref 5,.ref 1,.v (.slice none 0 0),.ref 6],.row 3 (D.ints (xB ars m pc vs bd ss k).fst),.row 98 (D.stmts (xB ars m pc vs bd ss k).snd)] [(8,.ptr 4 0)] fun G=>b6 (wp_ret ?_)))))));exact G7 G [0,1,2,3,5,6] (by show _=mR [0,1,2,3,5,6] [.dead,dI ars,dT ss,.dead,.row 3 (D.ints (r7 ars ss m pc (vs,bd)).fst),.row 98 (D.stmts (r7 ars ss m pc (vs,bd)).snd)];have e1:((r7 ars ss m pc (vs,bd)).fst:List Int)=((xB ars m pc vs bd ss k).fst):=(congrArg Prod.fst (bI6 al));have e2:((r7 ars ss m pc (vs,bd)).snd:List c6)=((xB ars m pc vs bd ss k).snd):=(congrArg Prod.snd (bI6 al));(first|rw[e1,e2]|simp only[e1,e2])<;>rfl)
  refine wp_skip (b6 (wp_seq (wp_block (wp_seq (R9 G f8 [0,1,2,3,4,5,6,7,32,33,34,35,40] (ae1 ars ss (.row 3 (D.ints (xB ars m pc vs bd ss k).fst)::.row 98 (D.stmts (xB ars m pc vs bd ss k).snd)::(ar7 ss k [.box (sL (ss.getD k cD4) 8)]))) (N0 m pc [(9,iA k),(10,.ptr 12 0)]) (iX k k ss.length []) (iK al cF1) fun G=>b6 (wp_seq (wp_seq (l6 G f8 [(25,bA ((ss.getD k cD4).kind==3))] fun G=>b6 (V3 G (fun h1 q1=>?_) fun h1 q1=>?_)))))))))
  ·
   refine wp_skip (b6 (wp_seq (wp_seq (l6 G f8 [(33,bA ((ss.getD k cD4).kind==4))] fun G=>b6 (V3 G (fun h2 q2=>?_) fun h2 q2=>?_)))))
   ·
    refine wp_skip (b6 (wp_seq (j7 G f8 [0,1,2,3,4,5,6,7,8,9,10,11,12,21] (ae1 ars ss (.row 3 (D.ints (xB ars m pc vs bd ss k).fst)::.row 98 (D.stmts (xB ars m pc vs bd ss k).snd)::(ar7 ss k [.box (sL (ss.getD k cD4) 8),.box [iA 0,iA 0,.v (.slice none 0 0)]]))) (N0 m pc [(9,iA k),(10,.ptr 12 0),(12,.ptr 13 0)]) fun G=>b6 (wp_seq (j7 G (x6 4 [6,1,7,9] (bg8 ars pc ((ss.getD k cD4).value) ((xB ars m pc vs bd ss k).fst) ((xB ars m pc vs bd ss k).snd) ((a77 hs hv r1 r2 al al).1) (by have h9:=aS0 (m:=m) (pc:=pc) hs hv r1 r2 (show k<ss.length by omega);have h8:=ak8 (ss.getD k cD4);omega) (by have h9:=aS0 (m:=m) (pc:=pc) hs hv r1 r2 (show k<ss.length by omega);have h8:=ak8 (ss.getD k cD4);omega))) [0,1,2,3,4,5,8,9,10,11,12,13,46,47,48] (.dead::dI ars::dT ss::.dead::.box [.ref 12,.ref 1,.v (.slice none 0 0),.ref 13]::an4::(ar7 ss k [.box (sL (ss.getD k cD4) 6),.box (eL (B5 ars ss m pc vs bd k).snd 14),.row 3 (D.ints (B5 ars ss m pc vs bd k).fst.fst),.row 98 (D.stmts (B5 ars ss m pc vs bd k).fst.snd),dE (B5 ars ss m pc vs bd k).snd.kids])) (N0 m pc [(9,iA k),(10,.ptr 10 0),(12,.ptr 11 0)]) fun G=>b6 (wp_block (wp_seq (l6 G f8 [(82,bA ((ss.getD k cD4).kind==5))] fun G=>b6 (V3 G (fun h3 q3=>?_) fun h3 q3=>?_)))))))))
    ·
     refine wp_seq (l6 G f8 [(95,bA ((ss.getD k cD4).kind==1))] fun G=>b6 (V3 G (fun h4 q4=>?_) fun h4 q4=>?_))
     ·
      refine wp_seq (l6 G (I7 (y7 4 [12,1,6] (j8.lend (ac5 ((i5 ars pc (ss.getD k cD4).value (xB ars m pc vs bd ss k)).fst.fst) ars ((ss.getD k cD4).index.kind) ((ss.getD k cD4).index.value) ((ss.getD k cD4).index.kids) (by rw[c7.eta];exact(bI0 hs al (aJ2 hs al al al al al) (a77 hs hv r1 r2 al al).2.2.2.1).1)) [.row 3]) (y7 5 [] (M9 (j5 (i5 ars pc (ss.getD k cD4).value (xB ars m pc vs bd ss k)).fst.fst ars 5 (A0 (ss.getD k cD4).index))) I6)) fz []) [(109,bA (i9 (j5 (B5 ars ss m pc vs bd k).fst.fst ars 5 (an5 ss k))&&decide (j5 (B5 ars ss m pc vs bd k).fst.fst ars 5 (an5 ss k)%2=1)))] fun G=>b6 ?_);cases h5:(i9 (j5 (i5 ars pc (ss.getD k cD4).value (xB ars m pc vs bd ss k)).fst.fst ars (5:Nat) (A0 (ss.getD k cD4).index))&&decide (j5 (i5 ars pc (ss.getD k cD4).value (xB ars m pc vs bd ss k)).fst.fst ars (5:Nat) (A0 (ss.getD k cD4).index)%(2:Int)=1))
      ·
       have q5:((i9 (j5 (i5 ars pc (ss.getD k cD4).value (xB ars m pc vs bd ss k)).fst.fst ars 5 (A0 (ss.getD k cD4).index)))=false)\/(¬(j5 (i5 ars pc (ss.getD k cD4).value (xB ars m pc vs bd ss k)).fst.fst ars 5 (A0 (ss.getD k cD4).index)%2=1)):=Or.imp (fun hq=>(hq)) (fun hq=>of_decide_eq_false hq) (Bool.and_eq_false_iff.1 h5);refine rF G _ h5 (K7 G (I7 (y7 6 [6] (hcp ((ss.getD k cD4).index) ((bI0 hs al (aJ2 hs al al al al al) (cE1 _)).2)) (y7 13 [6] (hcp ((ss.getD k cD4).index) ((bI0 hs al (aJ2 hs al al al al al) (cE1 _)).2)) (y7 14 [119] (ay3 ((ss.getD k cD4).target) ((ss.getD k cD4).index.kind) ((ss.getD k cD4).index.value) ((ss.getD k cD4).index.kids)) (y7 15 [14,127] (am8 m ((i5 ars pc (ss.getD k cD4).value (xB ars m pc vs bd ss k)).snd.kind) ((i5 ars pc (ss.getD k cD4).value (xB ars m pc vs bd ss k)).snd.value) 3 ((ss.getD k cD4).target) ((i5 ars pc (ss.getD k cD4).value (xB ars m pc vs bd ss k)).snd.kids) ([A0 (ss.getD k cD4).index])) I6)))) fz []) [0,1,0,4,0,16,48,0,0,0,512,0,2048,6256,15984,32752,65532,131068,262143,524287,1048575] [0,1,2,3,4,5,12,159] (ae1 ars ss [.row 3 (D.ints (B5 ars ss m pc vs bd k).fst.fst),.row 98 (D.stmts ((B5 ars ss m pc vs bd k).fst.snd++([c6.mk 2 (ss.getD k cD4).target (an5 ss k) (A0 (bs4 ars ss m pc vs bd k)) 0 [] []]++[])))]) (N0 m pc [(9,iA k)]) (aP ((i5 ars pc (ss.getD k cD4).value (xB ars m pc vs bd ss k)).fst.snd.length+([c6.mk (2:Int) (ss.getD k cD4).target (A0 (ss.getD k cD4).index) (A0 (E0 m (c7.mk (i5 ars pc (ss.getD k cD4).value (xB ars m pc vs bd ss k)).snd.kind (i5 ars pc (ss.getD k cD4).value (xB ars m pc vs bd ss k)).snd.value (i5 ars pc (ss.getD k cD4).value (xB ars m pc vs bd ss k)).snd.kids) (c7.mk (3:Int) (ss.getD k cD4).target [c7.mk (ss.getD k cD4).index.kind (ss.getD k cD4).index.value (ss.getD k cD4).index.kids]))) (0:Int) [] []]++[]).length) 152 []) (aK (by have h9:(i5 ars pc (ss.getD k cD4).value ((xB ars m pc vs bd ss k).1,(xB ars m pc vs bd ss k).2)).1.2.length+10<=700000:=(a77 (m:=m) (pc:=pc) hs hv r1 r2 (show k<ss.length by omega) al).2.2.2.2.2.1;have h7:(i5 ars pc (ss.getD k cD4).value (xB ars m pc vs bd ss k)).1.2.length+10<=700000:=h9;simp only[cE0,cE5,cE9];omega) cF1) fun G=>?_)
       refine m8 (m8 (b6 (H0 G f8 [(9,iA ((k:Int)+1))] [wO ((k:Int)+1)] (o1 al) fun G=>b6 ?_)));exact P7 G (k+1) al al (rg 8) (by have e1:((xB ars m pc vs bd ss (k+1)).fst:List Int)=((i5 ars pc (ss.getD k cD4).value (xB ars m pc vs bd ss k)).fst.fst):=(ck5 al (aJ2 hs al al al al al) ab);have e2:((xB ars m pc vs bd ss (k+1)).snd:List c6)=((B5 ars ss m pc vs bd k).fst.snd++([c6.mk 2 (ss.getD k cD4).target (an5 ss k) (A0 (bs4 ars ss m pc vs bd k)) 0 [] []]++[])):=(congrArg Prod.snd (b61 al (aJ2 hs al al al al al) ab));(first|rw[e1,e2]|simp only[e1,e2])<;>rfl)
      have q5:((i9 (j5 (i5 ars pc (ss.getD k cD4).value (xB ars m pc vs bd ss k)).fst.fst ars 5 (A0 (ss.getD k cD4).index)))=true)/\(j5 (i5 ars pc (ss.getD k cD4).value (xB ars m pc vs bd ss k)).fst.fst ars 5 (A0 (ss.getD k cD4).index)%2=1):=And.imp (fun hq=>(hq)) (fun hq=>of_decide_eq_true hq) (Bool.and_eq_true_iff.1 h5);refine rT G _ h5 (j7 G (x6 5 [12,1,13,6,7,8,9,14] (bF4 ars ((i5 ars pc (ss.getD k cD4).value (xB ars m pc vs bd ss k)).fst.fst) ((i5 ars pc (ss.getD k cD4).value (xB ars m pc vs bd ss k)).fst.snd) m pc (ss.getD k cD4) ((i5 ars pc (ss.getD k cD4).value (xB ars m pc vs bd ss k)).snd) (by rw[c7.eta];exact(a77 hs hv r1 r2 al al).2.2.2.2.2.2) ((a77 hs hv r1 r2 al al).2.2.2.2.1) (by have h9:(i5 ars pc (ss.getD k cD4).value ((xB ars m pc vs bd ss k).1,(xB ars m pc vs bd ss k).2)).1.2.length+10<=700000:=(a77 (m:=m) (pc:=pc) hs hv r1 r2 (show k<ss.length by omega) al).2.2.2.2.2.1;have h7:(i5 ars pc (ss.getD k cD4).value (xB ars m pc vs bd ss k)).1.2.length+10<=700000:=h9;omega))) [0,1,2,3,4,5,55,56] (ae1 ars ss [.row 3 (D.ints ((B5 ars ss m pc vs bd k).fst.fst++[m7 (j5 (B5 ars ss m pc vs bd k).fst.fst ars 5 (Z8 ars ss m pc vs bd k)) pc])),.row 98 (D.stmts ((B5 ars ss m pc vs bd k).fst.snd++[Y5 ((B5 ars ss m pc vs bd k).fst.fst.length:Int) (Z8 ars ss m pc vs bd k)]++stL ((B5 ars ss m pc vs bd k).fst.fst.length:Int) (ss.getD k cD4).target (an5 ss k) m 4))]) (N0 m pc [(9,iA k)]) fun G=>m8 (m8 (b6 (H0 G f8 [(9,iA ((k:Int)+1))] [wO ((k:Int)+1)] (o1 al) fun G=>b6 ?_))));exact P7 G (k+1) al al (rg 8) (by have e1:((xB ars m pc vs bd ss (k+1)).fst:List Int)=((B5 ars ss m pc vs bd k).fst.fst++[m7 (j5 (B5 ars ss m pc vs bd k).fst.fst ars 5 (Z8 ars ss m pc vs bd k)) pc]):=(congrArg Prod.fst (b60 al (aJ2 hs al al al al al) ab));have e2:((xB ars m pc vs bd ss (k+1)).snd:List c6)=((B5 ars ss m pc vs bd k).fst.snd++[Y5 ((B5 ars ss m pc vs bd k).fst.fst.length:Int) (Z8 ars ss m pc vs bd k)]++stL ((B5 ars ss m pc vs bd k).fst.fst.length:Int) (ss.getD k cD4).target (an5 ss k) m 4):=(congrArg Prod.snd (b60 al (aJ2 hs al al al al al) ab));(first|rw[e1,e2]|simp only[e1,e2])<;>rfl)
     refine af5 G (I7 (y7 7 [] (ap4 ((ss.getD k cD4).target)) (y7 8 [14,71] (am8 m ((i5 ars pc (ss.getD k cD4).value (xB ars m pc vs bd ss k)).snd.kind) ((i5 ars pc (ss.getD k cD4).value (xB ars m pc vs bd ss k)).snd.value) 2 ((ss.getD k cD4).target) ((i5 ars pc (ss.getD k cD4).value (xB ars m pc vs bd ss k)).snd.kids) ([])) (y7 9 [12,1,13,79] (V7 ((i5 ars pc (ss.getD k cD4).value (xB ars m pc vs bd ss k)).fst.fst) ars ((i5 ars pc (ss.getD k cD4).value (xB ars m pc vs bd ss k)).fst.snd) ((ss.getD k cD4).target) ((E0 m (A0 (i5 ars pc (ss.getD k cD4).value (xB ars m pc vs bd ss k)).snd) (c7.mk 2 (ss.getD k cD4).target [])).kind) ((E0 m (A0 (i5 ars pc (ss.getD k cD4).value (xB ars m pc vs bd ss k)).snd) (c7.mk 2 (ss.getD k cD4).target [])).value) ((E0 m (A0 (i5 ars pc (ss.getD k cD4).value (xB ars m pc vs bd ss k)).snd) (c7.mk 2 (ss.getD k cD4).target [])).kids) (by have h9:(i5 ars pc (ss.getD k cD4).value ((xB ars m pc vs bd ss k).1,(xB ars m pc vs bd ss k).2)).1.2.length+10<=700000:=(a77 (m:=m) (pc:=pc) hs hv r1 r2 (show k<ss.length by omega) al).2.2.2.2.2.1;have h7:(i5 ars pc (ss.getD k cD4).value (xB ars m pc vs bd ss k)).1.2.length+10<=700000:=h9;omega)) I6))) fz []) [0,0,2,0,0,0,32,96,248,511,1023] [0,1,2,3,4,5,12,87] (ae1 ars ss [.row 3 (D.ints (B5 ars ss m pc vs bd k).fst.fst),.row 98 (D.stmts ((B5 ars ss m pc vs bd k).fst.snd++[Y5 (ss.getD k cD4).target (A0 (E0 m (Z8 ars ss m pc vs bd k) (c7.mk 2 (ss.getD k cD4).target [])))]))]) (N0 m pc [(9,iA k)]) fun G=>m8 (m8 (b6 (H0 G f8 [(9,iA ((k:Int)+1))] [wO ((k:Int)+1)] (o1 al) fun G=>b6 ?_)));exact P7 G (k+1) al al (rg 8) (by have e1:((xB ars m pc vs bd ss (k+1)).fst:List Int)=((i5 ars pc (ss.getD k cD4).value (xB ars m pc vs bd ss k)).fst.fst):=(ck6 al al);have e2:((xB ars m pc vs bd ss (k+1)).snd:List c6)=((B5 ars ss m pc vs bd k).fst.snd++[Y5 (ss.getD k cD4).target (A0 (E0 m (Z8 ars ss m pc vs bd k) (c7.mk 2 (ss.getD k cD4).target [])))]):=(congrArg Prod.snd (ck7 al al));(first|rw[e1,e2]|simp only[e1,e2])<;>rfl)
    refine R9 G f8 [0,1,2,3,4,5,12,71] (ae1 ars ss [.row 3 (D.ints (B5 ars ss m pc vs bd k).fst.fst),.row 98 (D.stmts ((B5 ars ss m pc vs bd k).fst.snd++([c6.mk 5 (ss.getD k cD4).target (c7.mk 0 0 []) (Z8 ars ss m pc vs bd k) 0 [] []]++[])))]) (N0 m pc [(9,iA k)]) (aP ((i5 ars pc (ss.getD k cD4).value (xB ars m pc vs bd ss k)).fst.snd.length+([c6.mk (5:Int) (ss.getD k cD4).target (c7.mk (0:Int) (0:Int) []) (A0 (i5 ars pc (ss.getD k cD4).value (xB ars m pc vs bd ss k)).snd) (0:Int) [] []]++[]).length) 152 []) (aK (by have h9:(i5 ars pc (ss.getD k cD4).value ((xB ars m pc vs bd ss k).1,(xB ars m pc vs bd ss k).2)).1.2.length+10<=700000:=(a77 (m:=m) (pc:=pc) hs hv r1 r2 (show k<ss.length by omega) al).2.2.2.2.2.1;have h7:(i5 ars pc (ss.getD k cD4).value (xB ars m pc vs bd ss k)).1.2.length+10<=700000:=h9;simp only[cE0,cE5,cE9];omega) cF1) fun G=>m8 (m8 (b6 (H0 G f8 [(9,iA ((k:Int)+1))] [wO ((k:Int)+1)] (o1 al) fun G=>b6 ?_)));exact P7 G (k+1) al al (rg 8) (by have e1:((xB ars m pc vs bd ss (k+1)).fst:List Int)=((i5 ars pc (ss.getD k cD4).value (xB ars m pc vs bd ss k)).fst.fst):=(ck1 al al);have e2:((xB ars m pc vs bd ss (k+1)).snd:List c6)=((B5 ars ss m pc vs bd k).fst.snd++([c6.mk 5 (ss.getD k cD4).target (c7.mk 0 0 []) (Z8 ars ss m pc vs bd k) 0 [] []]++[])):=(congrArg Prod.snd (ck2 al al));(first|rw[e1,e2]|simp only[e1,e2])<;>rfl)
   refine wp_seq (j7 G f8 (rg 14) (ae1 ars ss (.row 3 (D.ints (xB ars m pc vs bd ss k).fst)::.row 98 (D.stmts (xB ars m pc vs bd ss k).snd)::(ar7 ss k [.box (sL (ss.getD k cD4) 8),.tree (D.stmts [])]))) (N0 m pc [(9,iA k),(10,.ptr 12 0),(11,.tref 13)]) fun G=>b6 (wp_seq (j7 G (x6 5 [6,1,7,10] (hI ((ss.getD k cD4).body) m pc ((xB ars m pc vs bd ss k).fst) ((xB ars m pc vs bd ss k).snd) ((aP7 hs al).2.1) al (by have h9:=aS0 (m:=m) (pc:=pc) hs hv r1 r2 (show k<ss.length by omega);have h8:=ak8 (ss.getD k cD4);omega) (by have h9:=aS0 (m:=m) (pc:=pc) hs hv r1 r2 (show k<ss.length by omega);have h8:=ak8 (ss.getD k cD4);omega) (by have h9:=aS0 (m:=m) (pc:=pc) hs hv r1 r2 (show k<ss.length by omega);have h8:=ak8 (ss.getD k cD4);omega))) [0,1,2,3,4,5,7,8,9,10,11,12,54,55] (.dead::dI ars::dT ss::.dead::.box [.ref 12,.ref 1,.v (.slice none 0 0),.ref 6]::an4::.row 98 (D.stmts (xB ars m pc vs bd ss k).snd)::(ar7 ss k [.box (sL (ss.getD k cD4) 7),.row 3 (D.ints (r7 ars (ss.getD k cD4).body m pc ((xB ars m pc vs bd ss k).fst,[])).fst),dT (r7 ars (ss.getD k cD4).body m pc ((xB ars m pc vs bd ss k).fst,[])).snd])) (N0 m pc [(9,iA k),(10,.ptr 11 0),(11,.ref 13)]) fun G=>b6 (wp_seq (R9 G f8 [0,1,2,3,4,5,7,8,9,10,11,12,70] (.dead::dI ars::dT ss::.dead::.box [.ref 11,.ref 1,.v (.slice none 0 0),.ref 12]::an4::(ar7 ss k [.box (sL (ss.getD k cD4) 6),.row 3 (D.ints (r7 ars (ss.getD k cD4).body m pc ((xB ars m pc vs bd ss k).fst,[])).fst),.row 98 (D.stmts ((xB ars m pc vs bd ss k).snd++([c6.mk 4 0 (c7.mk 0 0 []) (c7.mk 0 0 []) (ss.getD k cD4).count (r7 ars (ss.getD k cD4).body m pc ((xB ars m pc vs bd ss k).fst,[])).snd []]++[])))])) (N0 m pc [(9,iA k),(10,.ptr 10 0)]) (aP ((xB ars m pc vs bd ss k).snd.length+([c6.mk (4:Int) (0:Int) (c7.mk (0:Int) (0:Int) []) (c7.mk (0:Int) (0:Int) []) (ss.getD k cD4).count (r7 ars (ss.getD k cD4).body m pc ((xB ars m pc vs bd ss k).fst,[])).snd []]++[]).length) 152 []) (aK (by have h9:=aS0 (m:=m) (pc:=pc) hs hv r1 r2 (show k<ss.length by omega);have h8:=O2 (xB ars m pc vs bd ss k).2;simp only[cE0,cE5,cE9];omega) cF1) fun G=>b6 (wp_exit (t4 (t3 (b6 (R9 G f8 [0,1,2,3,4,5,11,12] (ae1 ars ss [.row 3 (D.ints (r7 ars (ss.getD k cD4).body m pc ((xB ars m pc vs bd ss k).fst,[])).fst),.row 98 (D.stmts ((xB ars m pc vs bd ss k).snd++([c6.mk 4 0 (c7.mk 0 0 []) (c7.mk 0 0 []) (ss.getD k cD4).count (r7 ars (ss.getD k cD4).body m pc ((xB ars m pc vs bd ss k).fst,[])).snd []]++[])))]) (N0 m pc [(9,iA ((k:Int)+1))]) [wO ((k:Int)+1)] (o1 al) fun G=>?_))))))))))
   refine b6 ?_;exact P7 G (k+1) al al (rg 8) (by have e1:((xB ars m pc vs bd ss (k+1)).fst:List Int)=((r7 ars (ss.getD k cD4).body m pc ((xB ars m pc vs bd ss k).fst,[])).fst):=(ck3 al al);have e2:((xB ars m pc vs bd ss (k+1)).snd:List c6)=((xB ars m pc vs bd ss k).snd++([c6.mk 4 0 (c7.mk 0 0 []) (c7.mk 0 0 []) (ss.getD k cD4).count (r7 ars (ss.getD k cD4).body m pc ((xB ars m pc vs bd ss k).fst,[])).snd []]++[])):=(congrArg Prod.snd (ck4 al al));(first|rw[e1,e2]|simp only[e1,e2])<;>rfl)
  refine wp_seq (j7 G (x6 4 [6,1,7,8,9,10,11] (hF (ss.getD k cD4) ai ((aP7 hs al).1) ((aP7 hs al).2.1) ((aP7 hs al).2.2) al m pc ((xB ars m pc vs bd ss k).fst) ((xB ars m pc vs bd ss k).snd) (by have h9:=aS0 (m:=m) (pc:=pc) hs hv r1 r2 (show k<ss.length by omega);have h8:=ak8 (ss.getD k cD4);omega) (by have h9:=aS0 (m:=m) (pc:=pc) hs hv r1 r2 (show k<ss.length by omega);have h8:=ak8 (ss.getD k cD4);omega) (by have h9:=aS0 (m:=m) (pc:=pc) hs hv r1 r2 (show k<ss.length by omega);have h8:=ak8 (ss.getD k cD4);omega))) [0,1,2,3,4,5,8,9,10,11,12,45,46] (.dead::dI ars::dT ss::.dead::.box [.ref 11,.ref 1,.v (.slice none 0 0),.ref 12]::an4::(ar7 ss k [.box (sL (ss.getD k cD4) 6),.row 3 (D.ints (K0 ars (ss.getD k cD4) m pc (xB ars m pc vs bd ss k)).fst),.row 98 (D.stmts (K0 ars (ss.getD k cD4) m pc (xB ars m pc vs bd ss k)).snd)])) (N0 m pc [(9,iA k),(10,.ptr 10 0)]) fun G=>b6 (wp_exit (t4 (t3 (b6 (R9 G f8 [0,1,2,3,4,5,11,12] (ae1 ars ss [.row 3 (D.ints (K0 ars (ss.getD k cD4) m pc (xB ars m pc vs bd ss k)).fst),.row 98 (D.stmts (K0 ars (ss.getD k cD4) m pc (xB ars m pc vs bd ss k)).snd)]) (N0 m pc [(9,iA ((k:Int)+1))]) [wO ((k:Int)+1)] (o1 al) fun G=>b6 ?_))))));exact P7 G (k+1) al al (rg 8) (by have e1:((xB ars m pc vs bd ss (k+1)).fst:List Int)=((K0 ars (ss.getD k cD4) m pc (xB ars m pc vs bd ss k)).fst):=(congrArg Prod.fst (aK2 al));have e2:((xB ars m pc vs bd ss (k+1)).snd:List c6)=((K0 ars (ss.getD k cD4) m pc (xB ars m pc vs bd ss k)).snd):=(congrArg Prod.snd (aK2 al));(first|rw[e1,e2]|simp only[e1,e2])<;>rfl)
theorem bP0{ars vs:List Int}{m pc:Int}{ss:List c6}(h:j8.ok Tryz.prog (lbC ars m pc vs [] ss)):j8.ok Tryz.prog (lnC ars m pc vs ss):=
 j8.nilArg (pre:=[qI vs,dI ars,dT ss]) h 10 [0,1,2,4,5] rfl rfl rfl rfl rfl
theorem aN8(ars:List Int)(nv:Nat):∀(dd:Nat) (tt:List c6) (m pc:Int) (vs:List Int) (bd:List c6),tt.all (j9 nv ars.length dd)=true->nv<=vs.length->vs.length+4*j6 tt<=90000->j6 bd+130*j6 tt<=600000->j8.ok Tryz.prog (lbC ars m pc vs bd tt)
 | 0, tt, m, pc, vs, bd, hs, hv, r1, r2 => by
  have h0:tt=[]:=by
   cases tt with
   |nil=>rfl
   |cons a r=>simp[j9]at hs
  subst h0
  exact aV7 ars nv 0 [] rfl (fun _ _ _ _ _ h=>absurd h an) (fun _ _ _ _ _ _ h=>absurd h an) m pc vs bd hv r1 r2
 |dd+1,tt,m,pc,vs,bd,hs,hv,r1,r2=>by
  have hB:=aN8 ars nv dd
  have hI:∀(tt:List c6) (m pc:Int) (vs:List Int) (bd:List c6),tt.all (j9 nv ars.length dd)=true->nv<=vs.length->vs.length+4*j6 tt<=90000->130*j6 tt<=600000->j8.ok Tryz.prog (b16 ars m pc vs bd tt):=fun tt m pc vs bd h1 h2 h3 h4=>bB8 ars m pc vs bd tt (bP0 (hB tt m pc vs [] h1 h2 h3 (by simpa[j6]using h4)))
  exact aV7 ars nv dd tt hs (fun t k3 hh hbb hbe _ m pc vs bd hv r1 r2=>cb5 ars nv dd t k3 hh hbb hbe hB hI m pc vs bd hv r1 r2) (fun tt m pc vs bd h1 _ h2 h3 h4=>hI tt m pc vs bd h1 h2 h3 h4) m pc vs bd hv r1 r2
abbrev bM3(p:i6):i6:=⟨(r7 p.arrays p.body (-1) 0 (p.vars,[])).1,p.arrays,(r7 p.arrays p.body (-1) 0 (p.vars,[])).2⟩
theorem cd5{p:i6}(h:(X9 p false).1=0)(h2:n9 (bM3 p)=true):okL p=true:=b74 h h2
theorem cd4{p:i6}(h2:n9 (bM3 p)=false):okL p=false:=b75 h2
theorem ce5{p:i6}(h:(X9 p false).1=0)(h2:n9 (bM3 p)=true):J5 p=bM3 p:=b76 (b74 h h2)
theorem ce4{p:i6}(h2:n9 (bM3 p)=false):J5 p=⟨[],[],[]⟩:=bx2 (b75 h2)
theorem bS9(p:i6)(hp:n9 p=true):j8.ok Tryz.prog (lnC p.arrays (-1) 0 p.vars p.body):=by
 have h:=af2 hp
 exact bP0 (aN8 p.arrays p.vars.length 5 p.body (-1) 0 p.vars [] (aA7 hp).2.2.2 (cE1 _) al (by simp only[j6];omega))
abbrev ar6(r0:List (Nat×AV)):List (Nat×AV):=(1,.ptr 3 0)::(2,.ptr 4 0)::(3,bA false)::r0
theorem a22(p:i6)(hb:p.size<=1048576)(hp:¬(X9 p false).1=0):j8.ok Tryz.prog ⟨40,[pA 0],pS p,pS p++pS (J5 p),.tup [pA 3,bA (okL p)]⟩:=by
 refine D9 43 Tryz.func40 [dI p.vars,dI p.arrays,dT p.body] [(0,pA 0)] fun G=>?_;have hno:=cp3 hp
 have hb1:j6 p.body<=1048576:=by unfold i6.size at hb;omega
 refine wp_seq (j7 G f8 [0,1,2,3,11] [dI p.vars,dI p.arrays,dT p.body,.box (pL 0),.box [.v (.slice none 0 0),.v (.slice none 0 0),.v (.slice none 0 0)]] (ar6 []) fun G=>b6 (wp_seq (l6 G (x6 1 [0,1,2] (aa5 p.vars p.arrays p.body ai)) [(4,iA (X9 (i6.mk p.vars p.arrays p.body) false).fst)] fun G=>b6 (wp_seq (wp_seq (C6 G f8 (ar6 [(15,bA ((X9 (i6.mk p.vars p.arrays p.body) false).fst !=0))]) fun G=>b6 ?_))))));cases h0:((X9 (i6.mk p.vars p.arrays p.body) false).fst !=0)
 ·have q0:=bne_eq_false_iff_eq.1 h0;exact False.elim (hp ab)
 have q0:=bne_iff_ne.1 h0;refine rT G _ h0 (wp_seq (C6 G f8 (ar6 []) fun G=>b6 (wp_ret (l7 ?_))));obtain⟨ρ,G⟩:=G.nil 5 0 (.ints []) 1 [dI p.vars,dI p.arrays,dT p.body,.box (pL 0),.box [.ref 5,.v (.slice none 0 0),.v (.slice none 0 0)]] (ar6 []);obtain⟨ρ,G⟩:=G.nil 6 0 (.ints []) 1 [dI p.vars,dI p.arrays,dT p.body,.box (pL 0),.box [.ref 5,.ref 6,.v (.slice none 0 0)],.row 0 (D.ints [])] (ar6 []);obtain⟨ρ,G⟩:=G.nil 7 0 (.stmts []) 10 [dI p.vars,dI p.arrays,dT p.body,.box (pL 0),.box (pL 5),.row 0 (D.ints []),.row 0 (D.ints [])] (ar6 []);obtain⟨ρ,G⟩:=G.frz [.no,.no,.no,.no,.no,.row 0,.row 0,.row 0] [dI p.vars,dI p.arrays,dT p.body,.box (pL 0),.box (pL 5),dI [],dI [],dT []] (ar6 []);exact T9 (.tup [pA 5,bA false]) G [0,1,2,5,6,7] (by have e1:(okL p:Bool)=(false):=ai;(first|rw[e1]|simp only[e1])<;>rfl) (by show _=mR [0,1,2,5,6,7] [dI p.vars,dI p.arrays,dT p.body,dI (J5 p).vars,dI (J5 p).arrays,dT (J5 p).body];rw[bx2 hno]<;>rfl)
abbrev aY7:It:=.box [.v (.slice none 0 0),.v (.slice none 0 0),.v (.slice none 0 0)]
abbrev az1(p:i6)(r0:List It):List It:=.row 3 (D.ints (r7 p.arrays p.body (-1) 0 (p.vars,[])).fst)::.row 3 (D.ints p.arrays)::.tree (D.stmts (r7 p.arrays p.body (-1) 0 (p.vars,[])).snd)::r0
abbrev O1(p:i6)(r0:List It):List It:=dI p.vars::dI p.arrays::dT p.body::r0
theorem a21(p:i6)(hb:p.size<=1048576)(hf:(X9 p false).1=0):j8.ok Tryz.prog ⟨40,[pA 0],pS p,pS p++pS (J5 p),.tup [pA 3,bA (okL p)]⟩:=by
  have hpv:=ah6 hf;have hB:=bS9 p hpv;refine D9 43 Tryz.func40 (O1 p []) [(0,pA 0)] fun G=>?_;have hz:=bx5 (ah6 hf);have hv:=af2 (ah6 hf)
  have hzb:j6 (aN9 p).2<=1048576:=al
  have hsum:(aN9 p).1.length+p.arrays.length+j6 (aN9 p).2<=1048576:=al
  refine wp_seq (j7 G f8 [0,1,2,3,11] (O1 p [.box (pL 0),aY7]) [(1,.ptr 3 0),(2,.ptr 4 0),(3,bA false)] fun G=>b6 (wp_seq (l6 G (x6 1 [0,1,2] (aa5 p.vars p.arrays p.body al)) [(4,iA (X9 (i6.mk p.vars p.arrays p.body) false).fst)] fun G=>b6 (wp_seq (wp_seq (C6 G f8 [(1,.ptr 3 0),(2,.ptr 4 0),(3,bA false),(15,bA ((X9 (i6.mk p.vars p.arrays p.body) false).fst !=0))] fun G=>b6 ?_))))));cases h0:((X9 (i6.mk p.vars p.arrays p.body) false).fst !=0)
  ·
   have q0:=bne_eq_false_iff_eq.1 h0;refine rF G _ h0 (wp_skip (b6 (wp_seq (j7 G (x6 1 [0,1,2] (ap6 p.vars p.arrays p.body ai)) [0,1,2,4,13,14,15,21] (O1 p [aY7,.row 3 (D.ints p.vars),.row 3 (D.ints p.arrays),.tree (D.stmts p.body),.box [.ref 4,.ref 5,.tref 6]]) [(2,.ptr 3 0),(3,bA false),(6,.ptr 7 0)] fun G=>b6 (wp_seq ?_)))));obtain⟨ρ,G⟩:=G.frz [.no,.no,.no,.no,.no,.row 3] (O1 p [.box [.v (.slice none 0 0),.v (.slice none 0 0),.v (.slice none 0 0)],.row 3 (D.ints p.vars),dI p.arrays,.tree (D.stmts p.body),.box [.ref 4,.ref 5,.tref 6]]) [(2,.ptr 3 0),(3,bA false),(6,.ptr 7 0)];obtain⟨ρ,G⟩:=G.frz [.no,.no,.no,.no,.no,.no,.tree] (O1 p [.box [.v (.slice none 0 0),.v (.slice none 0 0),.v (.slice none 0 0)],.row 3 (D.ints p.vars),dI p.arrays,dT p.body,.box (pL 4)]) [(2,.ptr 3 0),(3,bA false),(6,.ptr 7 0)];refine j7 G (x6 8 [4,5,6] hB) [0,1,2,3,5,72,73,80] (O1 p [aY7,dI p.arrays,.row 3 (D.ints (r7 p.arrays p.body (-1) 0 (p.vars,[])).fst),.row 98 (D.stmts (r7 p.arrays p.body (-1) 0 (p.vars,[])).snd),.box [.ref 5,.ref 4,.v (.slice none 0 0),.ref 6]]) [(2,.ptr 3 0),(3,bA false),(7,.ptr 7 0)] fun G=>b6 (wp_seq ?_);obtain⟨ρ,G⟩:=G.frz [.no,.no,.no,.no,.no,.row 3] (O1 p [.box [.v (.slice none 0 0),.v (.slice none 0 0),.v (.slice none 0 0)],dI p.arrays,dI (r7 p.arrays p.body (-1) 0 (p.vars,[])).fst,.row 98 (D.stmts (r7 p.arrays p.body (-1) 0 (p.vars,[])).snd),.box [.ref 5,.ref 4,.v (.slice none 0 0),.ref 6]]) [(2,.ptr 3 0),(3,bA false),(7,.ptr 7 0)];obtain⟨ρ,G⟩:=G.frz [.no,.no,.no,.no,.no,.no,.row 98] (O1 p [.box [.v (.slice none 0 0),.v (.slice none 0 0),.v (.slice none 0 0)],dI p.arrays,dI (r7 p.arrays p.body (-1) 0 (p.vars,[])).fst,dT (r7 p.arrays p.body (-1) 0 (p.vars,[])).snd,.box [.ref 5,.ref 4,.v (.slice none 0 0),.ref 6]]) [(2,.ptr 3 0),(3,bA false),(7,.ptr 7 0)];refine j7 G (x6 9 [5,4,6] (ap6 ((r7 p.arrays p.body (-1) 0 (p.vars,[])).fst) p.arrays ((r7 p.arrays p.body (-1) 0 (p.vars,[])).snd) ai)) [0,1,2,3,80,81,82,88] (O1 p (aY7::(az1 p [.box [.ref 4,.ref 5,.tref 6]]))) [(2,.ptr 3 0),(3,bA false),(8,.ptr 7 0)] fun G=>b6 (wp_seq (wp_seq (l6 G (x6 1 [4,5,6] (j8.lend (aj0 ((r7 p.arrays p.body (-1) 0 (p.vars,[])).fst) p.arrays ((r7 p.arrays p.body (-1) 0 (p.vars,[])).snd) ai) [.row 3,.row 3,.tree])) [(40,.v (.bool !n9 (i6.mk (r7 p.arrays p.body (-1) 0 (p.vars,[])).fst p.arrays (r7 p.arrays p.body (-1) 0 (p.vars,[])).snd)))] fun G=>b6 ?_)));cases h1:(!n9 (i6.mk (r7 p.arrays p.body (-1:Int) (0:Int) (p.vars,[])).fst p.arrays (r7 p.arrays p.body (-1:Int) (0:Int) (p.vars,[])).snd))
   · have q1:(n9 (i6.mk (r7 p.arrays p.body (-1) 0 (p.vars,[])).fst p.arrays (r7 p.arrays p.body (-1) 0 (p.vars,[])).snd))=true:=(Eq.mp (cG1 _) h1);refine rF G _ h1 (wp_skip (b6 (wp_seq (j7 G f8 (rg 7) (O1 p (.box [.ref 4,.ref 5,.tref 6]::(az1 p []))) [(2,.ptr 3 0),(3,bA true)] fun G=>b6 (wp_ret ?_)))));obtain⟨ρ,G⟩:=G.frz [.no,.no,.no,.no,.row 3,.row 3,.tree] (O1 p [.box (pL 4),dI (r7 p.arrays p.body (-1) 0 (p.vars,[])).fst,dI p.arrays,dT (r7 p.arrays p.body (-1) 0 (p.vars,[])).snd]) [(2,.ptr 3 0),(3,bA true)];exact T9 (.tup [pA 4,bA true]) G [0,1,2,4,5,6] (by have e1:(okL p:Bool)=(true):=(cd5 hf ab);(first|rw[e1]|simp only[e1])<;>rfl) (by show _=mR [0,1,2,4,5,6] (O1 p [dI (J5 p).vars,dI (J5 p).arrays,dT (J5 p).body]);rw[ce5 hf ab]<;>rfl)
   have q1:(n9 (i6.mk (r7 p.arrays p.body (-1) 0 (p.vars,[])).fst p.arrays (r7 p.arrays p.body (-1) 0 (p.vars,[])).snd))=false:=(Eq.mp (cF7 _) h1);refine rT G _ h1 (wp_seq (C6 G f8 [(2,.ptr 3 0),(3,bA false),(8,.ptr 7 0)] fun G=>b6 (wp_ret (l7 ?_))));obtain⟨ρ,G⟩:=G.nil 8 0 (.ints []) 1 (O1 p (.box [.ref 8,.v (.slice none 0 0),.v (.slice none 0 0)]::(az1 p [.box [.ref 4,.ref 5,.tref 6]]))) [(2,.ptr 3 0),(3,bA false),(8,.ptr 7 0)];obtain⟨ρ,G⟩:=G.nil 9 0 (.ints []) 1 (O1 p (.box [.ref 8,.ref 9,.v (.slice none 0 0)]::(az1 p [.box [.ref 4,.ref 5,.tref 6],.row 0 (D.ints [])]))) [(2,.ptr 3 0),(3,bA false),(8,.ptr 7 0)];obtain⟨ρ,G⟩:=G.nil 10 0 (.stmts []) 10 (O1 p (.box (pL 8)::(az1 p [.box [.ref 4,.ref 5,.tref 6],.row 0 (D.ints []),.row 0 (D.ints [])]))) [(2,.ptr 3 0),(3,bA false),(8,.ptr 7 0)];obtain⟨ρ,G⟩:=G.frz [.no,.no,.no,.no,.no,.no,.no,.no,.row 0,.row 0,.row 0] (O1 p (.box (pL 8)::(az1 p [.box [.ref 4,.ref 5,.tref 6],dI [],dI [],dT []]))) [(2,.ptr 3 0),(3,bA false),(8,.ptr 7 0)];exact T9 (.tup [pA 8,bA false]) G [0,1,2,8,9,10] (by have e1:(okL p:Bool)=(false):=(cd4 ab);(first|rw[e1]|simp only[e1])<;>rfl) (by show _=mR [0,1,2,8,9,10] (O1 p [dI (J5 p).vars,dI (J5 p).arrays,dT (J5 p).body]);rw[ce4 ab]<;>rfl)
  have q0:=bne_iff_ne.1 h0;exact False.elim (by exact absurd hf al)
theorem bh4(p:i6)(hb:p.size<=1048576):j8.ok Tryz.prog ⟨40,[pA 0],pS p,pS p++pS (J5 p),.tup [pA 3,bA (okL p)]⟩:=by
 by_cases hf:(X9 p false).1=0
 ·exact a21 p hb hf
 exact a22 p hb hf
theorem j8.twice{P:Program}{f:FuncId}{args:List AV}{pre S:List It}{d:D}{res:AV}{i:Nat}(hc:j8.ok P ⟨f,args,pre,S,res⟩)(S1:List It)(hi:S[i]? =some (.dat d))(hl:pre.length<=S.length)
  (hS:S.all (fun x=>X4 S.length x.ids)=true) (hg:X4 S.length res.ids=true) (hl1:S1.length=S.length+1) (hd:t2 S1 S.length=.dat d) (h2:∀ρ:Nat->Value,ρ S.length=ρ i->∀j,j<S.length->(t2 S1 j).res ρ j=(t2 S j).res ρ j):j8.ok P ⟨f,args,pre,S1,res⟩:=by
 intro ι φ ψ w0 w F ρ M
 refine(hc ι φ ψ w0 w F ρ M).mono ?_
 rintro x w' ⟨ρ1,h1,rfl,M1⟩
 have hi':t2 S i=.dat d:=by simp[t2,hi]
 have hlt:i<S.length:=(cE7.1 hi).1
 have hinv:Inv (t2 S) ρ1 [S.length]:=fun ρ' h j=>by
  by_cases hj:j<S.length
  ·refine It.res_congr _ (fun k hk=>h k ?_) (.inr (.inr (h j ah)))
   have h1:=E3 (cE2.1 hS (S[j]) (cF3 hj)) k (by simpa[t2,cD7,cD8 hj]using hk)
   simp;omega
  rw[show t2 S j=.none by simp only[t2,cD7,cF6 (Nat.le_of_not_lt hj)];rfl];rfl
 obtain⟨ρ2,h3,M2,h4⟩:=M1.newDat (id:=S.length) (by simp[t2]) hinv (M1.datAt hi')
 have hρ:ρ2 i=ρ1 i:=h3 i ah
 have e:s4 F ρ2 (t0 (t2 S) [(S.length,.dat d)])=s4 F ρ2 (t2 S1):=by
  funext k
  cases k with
  |inl q=>rfl
  |inr j=>
   simp only[s4,t0]
   by_cases hj:j=S.length
   ·subst hj;rw[if_pos rfl,hd]
   rw[if_neg hj]
   by_cases hj2:j<S.length
   ·exact(h2 ρ2 (by rw[<-h4,hρ]) j hj2).symm
   rw[y8 al,y8 al]
 rw[e]at M2
 refine⟨ρ2,fun k hk=>by
  have hk:k<pre.length:=hk
  rw[h3 k ah];exact h1 k hk,?_,M2⟩
 exact congrArg _ (AV.val_congr res fun k hk=>by
  have:=E3 hg k hk
  exact h3 k ah).symm
theorem bG2(c:List UInt8):j8.ok Tryz.prog ⟨26,[.ref 0],[dY c],[dY c,.box [.ref 2,iA 0],dY (bsD c)],.ptr 1 0⟩:=by
 by_cases h:c.length<=2000
 ·have e:bsD c=c:=cF0 h
  rw[e]
  refine j8.twice (bq7 c h) (i:=0) _ rfl (by show(1:Nat)<=2;omega) rfl rfl rfl rfl fun ρ hρ j hj=>?_
  have hj:j<2:=hj
  match j,hj with
  |0,_=>rfl
  |1,_=>
   have hρ:ρ 2=ρ 0:=hρ
   simp only[t2,cD7,cE8,cD9,Option.getD_some,It.res,AV.vals,AV.val,hρ]
 exact bq6 c al
abbrev cdC(b:List UInt8)(j:Int):j8:=⟨68,[.ptr 0 0],[.box [.ref 1,iA j],dY b],[.box [.ref 1,iA (n4 b j).2],dY b,rI (n4 b j).1.vars,rI (n4 b j).1.arrays,rN (n4 b j).1.list],.agg [.ref 2,.ref 3,.ref 4]⟩
abbrev T8(b:List UInt8)(j X:Int)(k:Nat):List d9×Int:=rsD b ((R8 b j).2+1) (O9 b j).vars.length (O9 b j).arrays.length X k
section
variable{b:List UInt8}{j X:Int}{k:Nat}
theorem cu5(hX:nm b (R8 b j).2 lnL=X)(hk:(k:Int)=X-1)(h3:¬X>3):(n4 b j).1.list=(T8 b j X k).1++[⟨13,0,0,0,0⟩]/\(n4 b j).2=(T8 b j X k).2:=by
 obtain rfl:k=(X-1).toNat:=al
 unfold n4 clD
 simp only[hX,if_neg h3]
 constructor<;>first|trivial|rfl
theorem cu4(hX:nm b (R8 b j).2 lnL=X)(hk:(k:Int)=X-1)(h3:X>3)(h:¬pk b (T8 b j X k).2 4=0):(n4 b j).1.list=(T8 b j X k).1++[⟨13,0,0,0,0⟩]/\(n4 b j).2=(T8 b j X k).2+1:=by
 obtain rfl:k=(X-1).toNat:=al
 unfold T8 at h
 unfold n4 clD
 simp only[hX,if_pos h3,if_neg h]
 constructor<;>first|trivial|rfl
theorem cu3(hX:nm b (R8 b j).2 lnL=X)(hk:(k:Int)=X-1)(h3:X>3)(h:pk b (T8 b j X k).2 4=0):(n4 b j).1.list=(((T8 b j X k).1++[(⟨13,0,0,0,0⟩:d9)]).set 0 ⟨1,5,1+pk b ((T8 b j X k).2+1) 3,0,0⟩).set (X-2).toNat ⟨10,5,1,0,0⟩/\(n4 b j).2=(T8 b j X k).2+1+1:=by
 obtain rfl:k=(X-1).toNat:=al
 unfold T8 at h
 unfold n4 clD
 simp only[hX,if_pos h3,if_pos h]
 constructor
 ·first|trivial|rfl
 exact(Int.add_assoc _ 1 1).symm
theorem pw3(b:List UInt8){i:Int}(h0:0<=i)(h1:i<=1000000000):IntKind.i64.wrap (1+pk b i 3)=1+pk b i 3:=by
 have:=bm3 b (i:=i) (m:=3) h0 h1
 exact w64 al al
theorem cn9(b:List UInt8){j:Int}(X:Int)(r0:0<=j)(r1:j<=10000000)(k:Nat):(T8 b j X k).1.length=k/\(R8 b j).2+1<=(T8 b j X k).2/\(T8 b j X k).2<=(R8 b j).2+1+5*k:=
 cb8 b ((R8 b j).2+1) _ _ X k
end
abbrev aU8(b:List UInt8)(j:Int)(X:Int)(k:Nat):=rnD b (T8 b j X k).snd (O9 b j).vars.length (O9 b j).arrays.length (k:Int) X
abbrev aU7(b:List UInt8)(j:Int):List It:=[.box [.ref 1,iA (n4 b j).snd],dY b,.row 3 (D.ints (n4 b j).fst.vars),.row 3 (D.ints (n4 b j).fst.arrays),.row 76 (D.instrs (n4 b j).fst.list)]
abbrev a84:It:=.box [.v (.slice none 0 0),.v (.slice none 0 0),.v (.slice none 0 0)]
abbrev aK1(b:List UInt8)(j:Int):It:=.row 3 (D.ints (O9 b j).arrays)
abbrev aK0(b:List UInt8)(j:Int):It:=.row 3 (D.ints (O9 b j).vars)
abbrev b59(b:List UInt8)(j:Int)(X:Int)(k:Nat):It:=.row 76 (D.instrs ((((T8 b j X k).fst++([d9.mk 13 0 0 0 0]++[])).set 0 (d9.mk 1 5 (1+pk b ((T8 b j X k).snd+1) 3) 0 0)).set (X-2).toNat (d9.mk 10 5 1 0 0)))
abbrev bt6(b:List UInt8)(j:Int)(X:Int)(k:Nat):It:=.row 76 (D.instrs ((T8 b j X k).fst++([d9.mk 13 0 0 0 0]++[])))
abbrev aC9(X:Int)(r0:List (Nat×AV)):List (Nat×AV):=(0,.ptr 0 0)::(2,.ptr 2 0)::(4,.ptr 5 0)::(5,iA X)::r0
abbrev aJ1(b:List UInt8)(j:Int)(r0:List It):List It:=dY b::a84::aK0 b j::aK1 b j::.box [.ref 3,.ref 4,.ref 6]::r0
theorem bL1(b:List UInt8)(j X:Int)(hX:nm b (R8 b j).2 lnL=X)(r0:0<=j)(r1:j<=10000000):j8.ok Tryz.prog (cdC b j):=by
  have hbd:=bV6 b r0 r1;have hnum:j8.ok Tryz.prog ⟨109,[.ptr 0 0,.ref 2],[.box [.ref 1,iA (R8 b j).2],dY b,dI lnL],[.box [.ref 1,iA ((R8 b j).2+1)],dY b,dI lnL],iA X⟩:=hX▸Z6 b (R8 b j).2 lnL (List.cons_ne_nil _ _) al al;refine D9 60 Tryz.func68 [.box [.ref 1,iA j],dY b] [(0,.ptr 0 0)] fun G=>?_;have hop:1<=X/\X<=12:=hX▸ce0 b al al;refine wp_seq (j7 G f8 [0,1,2] [.box [.ref 1,iA j],dY b,a84] [(0,.ptr 0 0),(2,.ptr 2 0)] fun G=>b6 (wp_seq (j7 G (x6 1 [0,1] (aE5 b j ai ai)) [0,1,2,11,12,13,19] [.box [.ref 1,iA (R8 b j).snd],dY b,a84,aK0 b j,aK1 b j,.tree (D.stmts (O9 b j).body),.box [.ref 3,.ref 4,.tref 5]] [(0,.ptr 0 0),(2,.ptr 2 0),(3,.ptr 6 0)] fun G=>b6 (wp_seq (j7 G f8 [0,1,2,3,4,47] [.box [.ref 1,iA (R8 b j).snd],dY b,a84,aK0 b j,aK1 b j,.box [.ref 3,.ref 4,.v (.slice none 0 0)]] [(0,.ptr 0 0),(2,.ptr 2 0),(4,.ptr 5 0)] fun G=>b6 (wp_seq (j7 G (x6 2 [0,1,14] (j8.lend hnum [.no,.no,.row 3])) (rg 6) [.box [.ref 1,iA ((R8 b j).snd+1)],dY b,a84,aK0 b j,aK1 b j,.box [.ref 3,.ref 4,.v (.slice none 0 0)]] (aC9 X []) fun G=>b6 (wp_seq (wp_seq (C6 G f8 (aC9 X [(6,iA 0)]) fun G=>b6 (wp_block ?_)))))))))));obtain⟨ρ,G⟩:=G.nil 6 76 (.instrs []) 5 [.box [.ref 1,iA ((R8 b j).snd+1)],dY b,.box [.v (.slice none 0 0),.v (.slice none 0 0),.v (.slice none 0 0)],.row 3 (D.ints (O9 b j).vars),.row 3 (D.ints (O9 b j).arrays),.box [.ref 3,.ref 4,.ref 6]] (aC9 X [(6,iA 0)]);refine t9 (κ:=Nat) (fun k=>(k:Int)<=X-1) (fun k=>(X-1).toNat-k) (fun k=>(.box [.ref 1,iA (T8 b j X k).2]::(aJ1 b j [.row 76 (.instrs (T8 b j X k).1)]))) (fun k=>(aC9 X [(6,iA k)])) 0 al (x7.at G _ _) ?_;clear G;intro k ρ a w hp G;replace G:=x7.at G (.box [.ref 1,iA (T8 b j X k).snd]::(aJ1 b j [.row 76 (D.instrs (T8 b j X k).fst)])) (aC9 X [(6,iA k)]);have hrs:=cn9 b X r0 r1 k;refine wp_seq (wp_seq (H0 G f8 [(20,bA (decide ((k:Int)<X-1)))] [wO (X-1)] (o1 al) fun G=>b6 (rcD G (fun h0 q0=>?_) fun h0 q0=>?_)))
  ·
   refine wp_exit (t4 (t4 (t3 (b6 (wp_seq (R9 G f8 [0,1,2,3,4,5,39] (.box [.ref 1,iA (T8 b j X k).snd]::(aJ1 b j [bt6 b j X k])) (aC9 X []) (aP ((T8 b j X k).fst.length+([d9.mk (13:Int) (0:Int) (0:Int) (0:Int) (0:Int)]++[]).length) 40 []) (aK (by simp only[cE0,cE5,cE9,cG4];omega) cF1) fun G=>b6 (wp_seq (wp_seq ?_))))))));cases h1:(decide (X>3))
   · have q1:=dFf h1;refine l6 G (H2 (fc h1 fz) [(3,0),(4,0),(5,0),(1006,0)]) [(45,bA false)] fun G=>b6 (rF G false aj (wp_skip (b6 (wp_seq (j7 G f8 [0,1,2,3,4,6] [.box [.ref 1,iA (T8 b j X k).snd],dY b,.box (pL 3),aK0 b j,aK1 b j,bt6 b j X k] [(2,.ptr 2 0)] fun G=>b6 (wp_ret ?_))))));exact G7 G [0,1,3,4,5] (by show _=mR [0,1,3,4,5] (aU7 b j);unfold aU7;have e1:((n4 b j).snd:Int)=((T8 b j X k).snd):=((cu5 hX al al).2);have e2:((n4 b j).fst.list:List d9)=((T8 b j X k).fst++([d9.mk 13 0 0 0 0]++[])):=((cu5 hX al al).1);(first|rw[e1,e2]|simp only[e1,e2])<;>rfl)
   have q1:=dTt h1;refine j7 G (I7 (y7 4 [0,1] (G0 b ((T8 b j X k).snd) 4 al al) I6) (fc h1 fz) [(3,0),(4,0),(5,0),(1006,0)]) (rg 7) (.box [.ref 1,iA ((T8 b j X k).snd+1)]::(aJ1 b j [bt6 b j X k])) (aC9 X [(45,bA (pk b (T8 b j X k).snd 4==0))]) fun G=>b6 (V3 G (fun h2 q2=>?_) fun h2 q2=>?_)
   · refine wp_skip (b6 (wp_seq (j7 G f8 [0,1,2,3,4,6] [.box [.ref 1,iA ((T8 b j X k).snd+1)],dY b,.box (pL 3),aK0 b j,aK1 b j,bt6 b j X k] [(2,.ptr 2 0)] fun G=>b6 (wp_ret ?_))));exact G7 G [0,1,3,4,5] (by show _=mR [0,1,3,4,5] (aU7 b j);unfold aU7;have e1:((n4 b j).snd:Int)=((T8 b j X k).snd+1):=((cu4 hX al al al).2);have e2:((n4 b j).fst.list:List d9)=((T8 b j X k).fst++([d9.mk 13 0 0 0 0]++[])):=((cu4 hX al al al).1);(first|rw[e1,e2]|simp only[e1,e2])<;>rfl)
   refine wp_seq (K7 G (x6 3 [0,1] (G0 b ((T8 b j X k).snd+1) 3 al al)) [0,1,0,4,12,28,63,127] (rg 7) (.box [.ref 1,iA ((T8 b j X k).snd+1+1)]::(aJ1 b j [.row 76 (D.instrs (((T8 b j X k).fst++([d9.mk 13 0 0 0 0]++[])).set 0 (d9.mk 1 5 (1+pk b ((T8 b j X k).snd+1) 3) 0 0)))])) [(2,.ptr 2 0),(4,.ptr 5 0),(5,iA X)] [wO ((1:Int)+pk b ((T8 b j X k).snd+1) (3:Int)),(0:Int)<=0,(0:Int)<(((T8 b j X k).fst++([d9.mk (13:Int) (0:Int) (0:Int) (0:Int) (0:Int)]++[])).length:Int),(0:Nat)<((T8 b j X k).fst++([d9.mk (13:Int) (0:Int) (0:Int) (0:Int) (0:Int)]++[])).length] ⟨(pw3 b al al),al,(by simp[h0,h1,h2]),(by simp[h0,h1,h2]),cF1⟩ fun G=>b6 (R9 G f8 (rg 7) (.box [.ref 1,iA ((T8 b j X k).snd+1+1)]::(aJ1 b j [b59 b j X k])) [(2,.ptr 2 0),(4,.ptr 5 0)] [wO (X-2),(0:Int)<=X-2,X-2<((((T8 b j X k).fst++([d9.mk (13:Int) (0:Int) (0:Int) (0:Int) (0:Int)]++[])).set (0:Nat) (d9.mk (1:Int) (5:Int) ((1:Int)+pk b ((T8 b j X k).snd+1) (3:Int)) (0:Int) (0:Int))).length:Int),(X-2).toNat<(((T8 b j X k).fst++([d9.mk (13:Int) (0:Int) (0:Int) (0:Int) (0:Int)]++[])).set (0:Nat) (d9.mk (1:Int) (5:Int) ((1:Int)+pk b ((T8 b j X k).snd+1) (3:Int)) (0:Int) (0:Int))).length] ⟨oW al,al,(by simp only[cE0,cE5,cE9,cG4];omega),(by simp only[cE0,cE5,cE9,cG4];omega),cF1⟩ fun G=>b6 (wp_seq (j7 G f8 [0,1,2,3,4,6] [.box [.ref 1,iA ((T8 b j X k).snd+1+1)],dY b,.box (pL 3),aK0 b j,aK1 b j,b59 b j X k] [(2,.ptr 2 0)] fun G=>b6 (wp_ret ?_)))));exact G7 G [0,1,3,4,5] (by show _=mR [0,1,3,4,5] (aU7 b j);unfold aU7;have e1:((n4 b j).snd:Int)=((T8 b j X k).snd+1+1):=((cu3 hX al al al).2);have e2:((n4 b j).fst.list:List d9)=((((T8 b j X k).fst++([d9.mk 13 0 0 0 0]++[])).set 0 (d9.mk 1 5 (1+pk b ((T8 b j X k).snd+1) 3) 0 0)).set (X-2).toNat (d9.mk 10 5 1 0 0)):=((cu3 hX al al al).1);(first|rw[e1,e2]|simp only[e1,e2])<;>rfl)
  refine wp_skip (b6 (wp_seq (wp_block (K7 G (x6 6 [0,1,3,4,6] (j8.lend (bp3 b ((T8 b j X k).snd) ((O9 b j).vars) ((O9 b j).arrays) ((T8 b j X k).fst) ((k:Int)) X al al al al) [.no,.no,.row 3,.row 3,.row 76])) [0,1,0,0,0,0,60,124,255,511,1023] [0,1,2,3,4,5,71] (.box [.ref 1,iA (aU8 b j X k).snd]::(aJ1 b j [.row 76 (D.instrs ((T8 b j X k).fst++([d9.mk (aU8 b j X k).fst.op (aU8 b j X k).fst.a (aU8 b j X k).fst.b (aU8 b j X k).fst.c (aU8 b j X k).fst.d]++[])))])) (aC9 X [(6,iA k)]) (aP ((T8 b j X k).fst.length+([d9.mk (rnD b (T8 b j X k).snd (O9 b j).vars.length (O9 b j).arrays.length (k:Int) X).fst.op (rnD b (T8 b j X k).snd (O9 b j).vars.length (O9 b j).arrays.length (k:Int) X).fst.a (rnD b (T8 b j X k).snd (O9 b j).vars.length (O9 b j).arrays.length (k:Int) X).fst.b (rnD b (T8 b j X k).snd (O9 b j).vars.length (O9 b j).arrays.length (k:Int) X).fst.c (rnD b (T8 b j X k).snd (O9 b j).vars.length (O9 b j).arrays.length (k:Int) X).fst.d]++[]).length) 40 []) (aK (by simp only[cE0,cE5,cE9,cG4];omega) cF1) fun G=>m8 (b6 (H0 G f8 [(6,iA ((k:Int)+1))] [wO ((k:Int)+1)] (o1 al) fun G=>b6 ?_))))));exact P7 G (k+1) ai al (rg 7)
theorem ay2(b:List UInt8)(j:Int)(r0:0<=j)(r1:j<=10000000):j8.ok Tryz.prog (cdC b j):=bL1 b j _ rfl r0 r1
section
variable{b:List UInt8}{j:Int}{vs ars:List Int}{l:List d9}
end
theorem aG5(p:i6)(hb:p.size<=1048576):j8.ok Tryz.prog ⟨14,[pA 0],pS p,pS p++[rI (cvP (J5 p)),rI (caP (J5 p)),rN (L8 (J5 p)).1],.tup [.agg [.ref 3,.ref 4,.ref 5],bA (okC (J5 p))]⟩:=by
 refine D9 18 Tryz.func14 [dI p.vars,dI p.arrays,dT p.body] [(0,pA 0)] fun G=>?_;have hz:=ce3 p
 have hz1:(J5 p).size<=1048576:=al
 refine wp_seq (j7 G f8 [0,1,2,3,11] [dI p.vars,dI p.arrays,dT p.body,.box (pL 0),.box [.v (.slice none 0 0),.v (.slice none 0 0),.v (.slice none 0 0)]] [(1,.ptr 3 0),(2,.ptr 4 0),(3,bA false)] fun G=>b6 (wp_seq (j7 G (x6 1 [0,1,2] (bh4 p ai)) [0,1,2,4,13,14,15,45] [dI p.vars,dI p.arrays,dT p.body,.box [.v (.slice none 0 0),.v (.slice none 0 0),.v (.slice none 0 0)],dI (J5 p).vars,dI (J5 p).arrays,dT (J5 p).body,.box (pL 4)] [(2,.ptr 3 0),(3,bA false),(4,.ptr 7 0),(5,bA (okL p))] fun G=>b6 (wp_seq (wp_seq (l6 G f8 [(12,.v (.bool !okL p))] fun G=>b6 ?_))))));cases h0:(!okL p)
 ·have q0:(okL p)=true:=(Eq.mp (cG1 _) h0);refine rF G _ h0 (wp_skip (b6 (wp_seq (j7 G (x6 1 [4,5,6] (aC2 (J5 p) ai)) [0,1,2,3,16,17,18] [dI p.vars,dI p.arrays,dT p.body,.box (pL 4),.row 3 (D.ints (cvP (J5 p))),.row 3 (D.ints (caP (J5 p))),.row 76 (D.instrs (L8 (J5 p)).fst)] [(2,.ptr 3 0),(3,bA (okC (J5 p)))] fun G=>b6 (wp_ret ?_)))));exact G7 G [0,1,2,4,5,6]
 have q0:(okL p)=false:=(Eq.mp (cF7 _) h0);refine rT G _ h0 (wp_seq (C6 G f8 [(2,.ptr 3 0),(3,bA false),(4,.ptr 7 0)] fun G=>b6 (wp_ret (l7 ?_))));obtain⟨ρ,G⟩:=G.nil 8 3 (.ints []) 1 [dI p.vars,dI p.arrays,dT p.body,.box [.ref 8,.v (.slice none 0 0),.v (.slice none 0 0)],dI (J5 p).vars,dI (J5 p).arrays,dT (J5 p).body,.box (pL 4)] [(2,.ptr 3 0),(3,bA false),(4,.ptr 7 0)];obtain⟨ρ,G⟩:=G.nil 9 3 (.ints []) 1 [dI p.vars,dI p.arrays,dT p.body,.box [.ref 8,.ref 9,.v (.slice none 0 0)],dI (J5 p).vars,dI (J5 p).arrays,dT (J5 p).body,.box (pL 4),.row 3 (D.ints [])] [(2,.ptr 3 0),(3,bA false),(4,.ptr 7 0)];obtain⟨ρ,G⟩:=G.nil 10 76 (.instrs []) 5 [dI p.vars,dI p.arrays,dT p.body,.box (pL 8),dI (J5 p).vars,dI (J5 p).arrays,dT (J5 p).body,.box (pL 4),.row 3 (D.ints []),.row 3 (D.ints [])] [(2,.ptr 3 0),(3,bA false),(4,.ptr 7 0)];exact T9 (.tup [pA 8,bA false]) G [0,1,2,8,9,10] (by have e1:(okC (J5 p):Bool)=(false):=(bz3 ab);(first|rw[e1]|simp only[e1])<;>rfl) (by show _=mR [0,1,2,8,9,10] [dI p.vars,dI p.arrays,dT p.body,.row 3 (D.ints (cvP (J5 p))),.row 3 (D.ints (caP (J5 p))),.row 76 (D.instrs (L8 (J5 p)).fst)];have e2:(caP (J5 p):List Int)=([]):=(by rw[ch7 (bz3 ab)];done);have e3:((L8 (J5 p)).fst:List d9)=([]):=(by rw[aB8 (bz3 ab)];done);rw[e2,e3,ch0 (bz3 ab)]<;>rfl)
end Go.Proofs.YtfbeblgnjeokaaaGreat
