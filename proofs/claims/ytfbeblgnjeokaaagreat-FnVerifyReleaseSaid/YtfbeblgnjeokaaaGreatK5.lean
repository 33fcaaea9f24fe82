/- Part 5: functions on the way, plain laws. Conditions: as said. -/
import Derived.Test.YtfbeblgnjeokaaaGreatK1
import Derived.Test.YtfbeblgnjeokaaaGreatK3
import Derived.Test.YtfbeblgnjeokaaaGreatK4
set_option maxRecDepth 100000
set_option maxHeartbeats 16000000
set_option linter.unusedVariables false
set_option linter.unusedSimpArgs false
open Bool renaming and_eq_true → cD5, not_eq_false' → cG1, not_eq_true' → cF7
open Inhabited renaming default → cD4
open Int renaming mul_le_mul_of_nonneg_right → cI6
open List renaming all_eq_true → cE2, append_assoc → cI0, eq_nil_of_length_eq_zero → cF4, getD_eq_getElem?_getD → cD7, getElem?_append_left → cF2, getElem?_append_right → cH0, getElem?_eq_getElem → cD8, getElem?_eq_none → cF6, getElem?_replicate → cH8, getElem?_set → cH9, getElem_mem → cF3, length_append → cE0, length_cons → cE5, length_nil → cE9, length_replicate → cF8, length_set → cG4, map_cons → cH1, mem_append → cG2, mem_cons → cH6, mem_cons_of_mem → cH5, mem_cons_self → cH7, mem_range → cH4, mem_singleton → cG7, range → cF5, replicate → cD6, take → cE3, take_of_length_le → cF0
open Nat renaming le_refl → cE1, le_trans → cG3, lt_or_ge → cF9, zero_le → cG8
open True renaming intro → cF1

namespace Go.Proofs.YtfbeblgnjeokaaaGreat
open Go Go.RowKit
def H1(F:Nat->c6->Int×Nat):Nat->List c6->Int×Nat
 |c,[]=>(0,c)
 |c,s::r=>if(F c s).1=0 then H1 F (F c s).2 r else F c s
def am3(p:i6)(s:c6)(pc:Int):Int:=if s.kind=3 then m7 pc (s6 p s.value)else pc
def stC(p:i6)(strict:Bool):Nat->Int->Nat->c6->Int×Nat
  |0,_,c,_=>(0,c)
  | d + 1, pc, c, s => if ac6 p s pc strict = 0 then
      (if(H1 (stC p strict d (am3 p s pc)) (c+1) s.body).1=0 then H1 (stC p strict d (am3 p s pc)) (H1 (stC p strict d (am3 p s pc)) (c+1) s.body).2 s.els
       else H1 (stC p strict d (am3 p s pc)) (c+1) s.body)
    else(ac6 p s pc strict,c)
abbrev z4(p:i6)(strict:Bool)(d:Nat)(pc:Int)(c:Nat)(ss:List c6):Int×Nat:=H1 (stC p strict d pc) c ss
theorem ah5(F:Nat->c6->Int×Nat):∀(a b:List c6) (c:Nat),H1 F c (a++b)=if(H1 F c a).1=0 then H1 F (H1 F c a).2 b else H1 F c a
 |[],b,c=>by simp[H1]
 |x::r,b,c=>by
  simp only[List.cons_append,H1]
  by_cases h:(F c x).1=0
  ·simp only[h,if_true];exact ah5 F r b _
  simp[h]
theorem ac2{F:Nat->c6->Int×Nat}{c k:Nat}{ss:List c6}(h:(H1 F c (ss.take k)).1=0)(hk:k<ss.length):H1 F c (ss.take (k+1))=F (H1 F c (ss.take k)).2 (ss.getD k cD4):=by
 rw[o0 _ _ hk,ah5,if_pos h,m6 hk]
 simp only[H1]
 split
 ·rename_i h;exact Prod.ext h.symm rfl
 rfl
theorem H7{F:Nat->c6->Int×Nat}{c k:Nat}{ss:List c6}(h:(H1 F c (ss.take k)).1=0)(hk:k<ss.length)(hf:¬(F (H1 F c (ss.take k)).2 (ss.getD k cD4)).1=0):H1 F c ss=F (H1 F c (ss.take k)).2 (ss.getD k cD4):=by
 conv=>lhs;rw[<-List.take_append_drop (k+1) ss]
 rw[ah5,ac2 h hk,if_neg hf]
theorem aP6{F:Nat->c6->Int×Nat}{c k:Nat}{ss:List c6}(hk:ss.length<=k):H1 F c ss=H1 F c (ss.take k):=by rw[cF0 hk]
theorem ax9{F:Nat->c6->Int×Nat}(hF:∀c s,(F c s).2<=c+nS s):∀(ss:List c6) (c:Nat),(H1 F c ss).2<=c+X8 ss
 |[],c=>by simp[H1]
 |s::r,c=>by
  simp only[H1,X8]
  have h1:=hF c s
  have h2:=ax9 hF r (F c s).2
  split<;>omega
theorem bk3{p:i6}{strict:Bool}:∀(d:Nat) (pc:Int) (c:Nat) (s:c6),(stC p strict d pc c s).2<=c+nS s
 |0,_,c,s=>by simp[stC]
 |d+1,pc,c,s=>by
  have hs:=aA9 s
  have h1:=ax9 (bk3 (p:=p) (strict:=strict) d (am3 p s pc)) s.body (c+1)
  have h2:=ax9 (bk3 (p:=p) (strict:=strict) d (am3 p s pc)) s.els (H1 (stC p strict d (am3 p s pc)) (c+1) s.body).2
  rw[stC]
  split
  ·split<;>omega
  simp only;omega
theorem bq9{p:i6}{strict:Bool}{d:Nat}{pc:Int}{c:Nat}{ss:List c6}:(z4 p strict d pc c ss).2<=c+X8 ss:=ax9 (bk3 d pc) ss c
theorem U6{nv na d k:Nat}{ss:List c6}(hs:ss.all (j9 nv na (d+1))=true)(hk:k<ss.length):G3 nv na (ss.getD k cD4)=true/\(ss.getD k cD4).body.all (j9 nv na d)=true/\(ss.getD k cD4).els.all (j9 nv na d)=true:=by
 have h:=cE2.1 hs _ (cF3 hk)
 rw[V0,cD5,cD5]at h
 rw[m6 hk];exact h
theorem b87{k:Nat}{ss:List c6}(hk:k<ss.length):X8 (ss.take k)+(1+X8 (ss.getD k cD4).body+X8 (ss.getD k cD4).els)<=X8 ss:=by
 have h1:=bD3 hk
 have h2:=bc9 ss (k+1)
 rw[aA9]at h1
 rw[m6 hk];omega
section
variable{p:i6}{strict:Bool}{d c:Nat}{pc:Int}{s:c6}
theorem aH1(h:¬ac6 p s pc strict=0):stC p strict (d+1) pc c s=(ac6 p s pc strict,c):=by rw[stC,if_neg h]
theorem X1{x:Int}(h:ac6 p s pc strict=0)(hx:am3 p s pc=x)(h2:¬(z4 p strict d x (c+1) s.body).1=0):stC p strict (d+1) pc c s=z4 p strict d x (c+1) s.body:=by
 subst hx;rw[stC,if_pos h,if_neg h2]
theorem Q7{x:Int}(h:ac6 p s pc strict=0)(hx:am3 p s pc=x)(h2:(z4 p strict d x (c+1) s.body).1=0):stC p strict (d+1) pc c s=z4 p strict d x (z4 p strict d x (c+1) s.body).2 s.els:=by
 subst hx;rw[stC,if_pos h,if_pos h2]
theorem ae8(k:s.kind=3):am3 p s pc=m7 pc (s6 p s.value):=if_pos k
theorem ae7(k:¬s.kind=3):am3 p s pc=pc:=if_neg k
end
theorem aR2{p:i6}{strict:Bool}{d k c:Nat}{pc:Int}{ss:List c6}(hc:c+X8 ss<=4000000)(hk:k<ss.length):(z4 p strict (d+1) pc c (ss.take k)).2+1+X8 (ss.getD k cD4).body<=4000000:=by
 have h1:=b87 (k:=k) (ss:=ss) hk
 have h2:=bq9 (p:=p) (strict:=strict) (d:=d+1) (pc:=pc) (c:=c) (ss:=ss.take k)
 omega
theorem aY2{p:i6}{strict:Bool}{d k c:Nat}{pc x:Int}{ss:List c6}(hc:c+X8 ss<=4000000)(hk:k<ss.length):(z4 p strict d x ((z4 p strict (d+1) pc c (ss.take k)).2+1) (ss.getD k cD4).body).2+X8 (ss.getD k cD4).els<=4000000:=by
 have h1:=b87 (k:=k) (ss:=ss) hk
 have h2:=bq9 (p:=p) (strict:=strict) (d:=d+1) (pc:=pc) (c:=c) (ss:=ss.take k)
 have h3:=bq9 (p:=p) (strict:=strict) (d:=d) (pc:=x) (c:=(z4 p strict (d+1) pc c (ss.take k)).2+1) (ss:=(ss.getD k cD4).body)
 omega
theorem b50{p:i6}{strict:Bool}{d k c:Nat}{pc:Int}{ss:List c6}(hc:c+X8 ss<=4000000)(hk:k<ss.length):IntKind.i64.wrap (((z4 p strict (d+1) pc c (ss.take k)).2:Int)+1)=((z4 p strict (d+1) pc c (ss.take k)).2:Int)+1:=by
 have h1:=aR2 (p:=p) (strict:=strict) (d:=d) (pc:=pc) hc hk
 exact w64 al al
abbrev b49(p:i6)(d:Nat)(ss:List c6)(pc:Int)(c:Nat)(strict:Bool):j8:=P1 176 [pA 0,.ref 3,iA pc,iA c,bA strict] (pS p++[.dat (.stmts ss)]) (.tup [iA (z4 p strict d pc c ss).1,iA (z4 p strict d pc c ss).2])
theorem bq0(p:i6)(pc:Int)(c:Nat)(strict:Bool):j8.ok Tryz.prog (b49 p 0 [] pc c strict):=by
 refine D9 74 Tryz.func176 [dI p.vars,dI p.arrays,dT p.body,dT []] [(0,pA 0),(1,.ref 3),(2,iA pc),(3,iA c),(4,bA strict)] fun G=>?_;refine wp_seq (j7 G f8 (rg 5) [dI p.vars,dI p.arrays,dT p.body,dT [],.box (pL 0)] [(1,.ref 3),(2,iA pc),(3,iA c),(4,bA strict),(5,.ptr 4 0),(10,iA 0),(11,iA 0)] fun G=>b6 (wp_seq (wp_seq (C6 G f8 [(1,.ref 3),(2,iA pc),(3,iA c),(4,bA strict),(5,.ptr 4 0),(10,iA 0),(11,iA 0),(12,iA 0)] fun G=>b6 (wp_block ?_)))));refine t9 (κ:=Nat) (fun k=>k=0) (fun k=>0) (fun k=>[dI p.vars,dI p.arrays,dT p.body,dT [],.box (pL 0)]) (fun k=>[(1,.ref 3),(2,iA pc),(3,iA c),(4,bA strict),(5,.ptr 4 0),(10,iA 0),(11,iA 0),(12,iA 0)]) 0 aj (x7.at G _ _) ?_;clear G;intro k ρ a w hp G;refine wp_seq (wp_seq (l6 G f8 [(19,bA false)] fun G=>b6 (rF G false aj (wp_exit (t4 (t4 (t3 (b6 (wp_seq (j7 G f8 (rg 4) [dI p.vars,dI p.arrays,dT p.body,dT []] [(10,iA 0),(11,iA c)] fun G=>b6 (wp_ret ?_)))))))))));exact G7 G (rg 4)
abbrev aq3(p:i6)(d:Nat)(strict:Bool)(ss:List c6)(pc:Int)(c:Nat)(k:Nat):=z4 p strict d (m7 pc (s6 p (ss.getD k cD4).value)) ((z4 p strict (d+1) pc c (cE3 k ss)).snd+1) (ss.getD k cD4).body
abbrev ad1(p:i6)(d:Nat)(strict:Bool)(ss:List c6)(pc:Int)(c:Nat)(k:Nat):=z4 p strict d pc ((z4 p strict (d+1) pc c (cE3 k ss)).snd+1) (ss.getD k cD4).body
abbrev a79(p:i6)(d:Nat)(strict:Bool)(ss:List c6)(pc:Int)(c:Nat)(k:Nat):=z4 p strict d (m7 pc (s6 p (ss.getD k cD4).value)) (aq3 p d strict ss pc c k).snd (ss.getD k cD4).els
abbrev aT6(strict:Bool)(k:Nat)(r0:List (Nat×AV)):List (Nat×AV):=(4,bA strict)::(5,.ptr 4 0)::(10,iA 0)::(11,iA 0)::(12,iA (k:Int))::r0
abbrev aJ0(p:i6)(ss:List c6)(r0:List It):List It:=dI p.vars::dI p.arrays::dT p.body::dT ss::.box (pL 0)::r0
theorem bp8(p:i6)(d:Nat)(strict:Bool)(ih:∀(ss:List c6) (pc:Int) (c:Nat),ss.all (j9 p.vars.length p.arrays.length d)=true->c+X8 ss<=4000000->j8.ok Tryz.prog (b49 p d ss pc c strict))
    (ss:List c6) (pc:Int) (c:Nat) (hs:ss.all (j9 p.vars.length p.arrays.length (d+1))=true) (hc:c+X8 ss<=4000000):j8.ok Tryz.prog (b49 p (d+1) ss pc c strict):=by
  refine D9 74 Tryz.func176 [dI p.vars,dI p.arrays,dT p.body,dT ss] [(0,pA 0),(1,.ref 3),(2,iA pc),(3,iA c),(4,bA strict)] fun G=>?_;have hlen:ss.length<=9223372036854775807:=G.len 3 (d:=.stmts ss) aj;refine wp_seq (j7 G f8 (rg 5) (aJ0 p ss []) [(1,.ref 3),(2,iA pc),(3,iA c),(4,bA strict),(5,.ptr 4 0),(10,iA 0),(11,iA 0)] fun G=>b6 (wp_seq (wp_seq (C6 G f8 [(1,.ref 3),(2,iA pc),(3,iA c),(4,bA strict),(5,.ptr 4 0),(10,iA 0),(11,iA 0),(12,iA 0)] fun G=>b6 (wp_block ?_)))));refine t9 (κ:=Nat) (fun k=>k<=ss.length/\(z4 p strict (d+1) pc c (ss.take k)).1=0) (fun k=>ss.length-k) (fun k=>[dI p.vars,dI p.arrays,dT p.body,dT ss,.box (pL 0)]) (fun k=>[(1,.ref 3),(2,iA pc),(3,iA (z4 p strict (d+1) pc c (ss.take k)).2),(4,bA strict),(5,.ptr 4 0),(10,iA 0),(11,iA 0),(12,iA k)]) 0 (⟨cG8 _,rfl⟩) (x7.at G _ _) ?_;clear G;intro k ρ a w hp G;replace G:=x7.at G (aJ0 p ss []) ((1,.ref 3)::(2,iA pc)::(3,iA ((z4 p strict (d+1) pc c (cE3 k ss)).snd:Int))::(aT6 strict k []));refine wp_seq (wp_seq (l6 G f8 [(19,bA (decide ((k:Int)<ss.length)))] fun G=>b6 (rcD G (fun h0 q0=>?_) fun h0 q0=>?_)))
  · refine wp_exit (t4 (t4 (t3 (b6 (wp_seq (j7 G f8 (rg 4) [dI p.vars,dI p.arrays,dT p.body,dT ss] [(10,iA 0),(11,iA ((z4 p strict (d+1) pc c (cE3 k ss)).snd:Int))] fun G=>b6 (wp_ret ?_)))))));exact T9 (.tup [iA 0,iA ((z4 p strict (d+1) pc c (cE3 k ss)).snd:Int)]) G (rg 4) (by have e1:((z4 p strict (d+1) pc c ss).fst:Int)=(0):=(by rw[z4,aP6 (k:=k) al];exact hp.2);have e2:(((z4 p strict (d+1) pc c ss).snd:Int):Int)=(((z4 p strict (d+1) pc c (cE3 k ss)).snd:Int)):=(by rw[z4,aP6 (k:=k) al]);(first|rw[e1,e2]|simp only[e1,e2])<;>rfl)
  refine wp_skip (b6 (wp_seq (wp_block (wp_seq (R9 G f8 [0,1,2,3,4,29,30,31,32,37] (aJ0 p ss [dE (ss.getD k cD4).index.kids,dE (ss.getD k cD4).value.kids,dT (ss.getD k cD4).body,dT (ss.getD k cD4).els,.box (sL (ss.getD k cD4) 5)]) ((1,.ref 3)::(2,iA pc)::(3,iA ((z4 p strict (d+1) pc c (cE3 k ss)).snd:Int))::(aT6 strict k [(13,.ptr 9 0)])) (iX k k ss.length []) (iK al cF1) fun G=>b6 (wp_seq (l6 G (x6 4 [0,1,2,5,6,7,8] (b45 p (ss.getD k cD4) pc strict ((U6 hs al).1))) [(14,iA (ac6 p (ss.getD k cD4) pc strict))] fun G=>b6 (wp_seq (wp_seq (l6 G f8 [(32,bA (ac6 p (ss.getD k cD4) pc strict !=0))] fun G=>b6 (rcN G (fun h1 q1=>?_) fun h1 q1=>?_)))))))))))
  ·
   refine wp_skip (b6 (wp_seq (H0 G f8 [(3,iA (((z4 p strict (d+1) pc c (cE3 k ss)).snd:Int)+1))] [wO (((z4 p strict (d+(1:Nat)) pc c (cE3 k ss)).snd:Int)+1)] ⟨(b50 hc al),cF1⟩ fun G=>b6 (wp_seq (l6 G f8 [(15,iA pc)] fun G=>b6 (wp_seq (wp_seq (l6 G f8 [(40,bA ((ss.getD k cD4).kind==3))] fun G=>b6 (V3 G (fun h2 q2=>?_) fun h2 q2=>?_)))))))))
   ·
    refine wp_skip (b6 (wp_seq (l6 G (x6 6 [0,1,2,7] (ih ((ss.getD k cD4).body) pc ((z4 p strict (d+1) pc c (cE3 k ss)).snd+1) ((U6 hs al).2.1) (aR2 hc al))) [(3,iA ((ad1 p d strict ss pc c k).snd:Int)),(14,iA (ad1 p d strict ss pc c k).fst)] fun G=>b6 (wp_seq (wp_seq (l6 G f8 [(58,bA ((ad1 p d strict ss pc c k).fst==0))] fun G=>b6 (V3 (u:=((z4 p strict d pc ((z4 p strict (d+(1:Nat)) pc c (cE3 k ss)).snd+(1:Nat)) (ss.getD k cD4).body).fst)) (v:=(0:Int)) G (fun h3 q3=>?_) fun h3 q3=>?_)))))))
    ·
     refine wp_skip (b6 (wp_seq (j7 G f8 (rg 5) (aJ0 p ss []) ((1,.ref 3)::(2,iA pc)::(3,iA ((ad1 p d strict ss pc c k).snd:Int))::(aT6 strict k [(14,iA (ad1 p d strict ss pc c k).fst),(70,bA ((ad1 p d strict ss pc c k).fst !=0))])) fun G=>b6 ?_)));cases h4:((z4 p strict d pc ((z4 p strict (d+(1:Nat)) pc c (cE3 k ss)).snd+(1:Nat)) (ss.getD k cD4).body).fst !=0)
     · have q4:=bne_eq_false_iff_eq.1 h4;exact False.elim al
     have q4:=bne_iff_ne.1 h4;refine rT G _ h4 (wp_seq (l6 G f8 [(10,iA (ad1 p d strict ss pc c k).fst),(11,iA ((ad1 p d strict ss pc c k).snd:Int))] fun G=>b6 (wp_ret (A5 (l7 (l7 (A5 (l7 ?_))))))));exact T9 (.tup [iA (z4 p strict d pc ((z4 p strict (d+1) pc c (cE3 k ss)).snd+1) (ss.getD k cD4).body).fst,iA ((z4 p strict d pc ((z4 p strict (d+1) pc c (cE3 k ss)).snd+1) (ss.getD k cD4).body).snd:Int)]) G (rg 4) (by have e1:((z4 p strict (d+1) pc c ss).fst:Int)=((z4 p strict d pc ((z4 p strict (d+1) pc c (cE3 k ss)).snd+1) (ss.getD k cD4).body).fst):=(by rw[z4,H7 hp.2 al (by rw[X1 ab (ae7 ab) ab];with_reducible assumption),X1 ab (ae7 ab) ab]);have e2:(((z4 p strict (d+1) pc c ss).snd:Int):Int)=(((z4 p strict d pc ((z4 p strict (d+1) pc c (cE3 k ss)).snd+1) (ss.getD k cD4).body).snd:Int)):=(by rw[z4,H7 hp.2 al (by rw[X1 ab (ae7 ab) ab];with_reducible assumption),X1 ab (ae7 ab) ab]);(first|rw[e1,e2]|simp only[e1,e2])<;>rfl)
    refine j7 G (x6 6 [0,1,2,8] (ih ((ss.getD k cD4).els) pc ((ad1 p d strict ss pc c k).snd) ((U6 hs al).2.2) (aY2 hc al))) (rg 5) (aJ0 p ss []) ((1,.ref 3)::(2,iA pc)::(3,iA ((z4 p strict d pc (ad1 p d strict ss pc c k).snd (ss.getD k cD4).els).snd:Int))::(aT6 strict k [(14,iA (z4 p strict d pc (ad1 p d strict ss pc c k).snd (ss.getD k cD4).els).fst)])) fun G=>b6 (wp_seq (l6 G f8 [(70,bA ((z4 p strict d pc (ad1 p d strict ss pc c k).snd (ss.getD k cD4).els).fst !=0))] fun G=>b6 (rcN (u:=((z4 p strict d pc (z4 p strict d pc ((z4 p strict (d+(1:Nat)) pc c (cE3 k ss)).snd+(1:Nat)) (ss.getD k cD4).body).snd (ss.getD k cD4).els).fst)) (v:=(0:Int)) G (fun h5 q5=>?_) fun h5 q5=>?_)))
    · refine wp_skip (m8 (b6 (H0 G f8 [(12,iA ((k:Int)+1))] [wO ((k:Int)+1)] (o1 al) fun G=>b6 ?_)));exact P7 G (k+1) (⟨al,by rw[z4,ac2 hp.2 al,Q7 ab (ae7 ab) ab];with_reducible assumption⟩) al (rg 5) (ht:=by have e1:(((z4 p strict (d+1) pc c (cE3 (k+1) ss)).snd:Int):Int)=(((z4 p strict d pc (z4 p strict d pc ((z4 p strict (d+1) pc c (cE3 k ss)).snd+1) (ss.getD k cD4).body).snd (ss.getD k cD4).els).snd:Int)):=(by rw[z4,ac2 hp.2 al,Q7 ab (ae7 ab) ab]);(first|rw[e1]|simp only[e1])<;>rfl)
    refine wp_seq (l6 G f8 [(10,iA (z4 p strict d pc (ad1 p d strict ss pc c k).snd (ss.getD k cD4).els).fst),(11,iA ((z4 p strict d pc (ad1 p d strict ss pc c k).snd (ss.getD k cD4).els).snd:Int))] fun G=>b6 (wp_ret (A5 (l7 (l7 (A5 (l7 ?_)))))));exact T9 (.tup [iA (z4 p strict d pc (z4 p strict d pc ((z4 p strict (d+1) pc c (cE3 k ss)).snd+1) (ss.getD k cD4).body).snd (ss.getD k cD4).els).fst,iA ((z4 p strict d pc (z4 p strict d pc ((z4 p strict (d+1) pc c (cE3 k ss)).snd+1) (ss.getD k cD4).body).snd (ss.getD k cD4).els).snd:Int)]) G (rg 4) (by have e1:((z4 p strict (d+1) pc c ss).fst:Int)=((z4 p strict d pc (z4 p strict d pc ((z4 p strict (d+1) pc c (cE3 k ss)).snd+1) (ss.getD k cD4).body).snd (ss.getD k cD4).els).fst):=(by rw[z4,H7 hp.2 al (by rw[Q7 ab (ae7 ab) ab];with_reducible assumption),Q7 ab (ae7 ab) ab]);have e2:(((z4 p strict (d+1) pc c ss).snd:Int):Int)=(((z4 p strict d pc (z4 p strict d pc ((z4 p strict (d+1) pc c (cE3 k ss)).snd+1) (ss.getD k cD4).body).snd (ss.getD k cD4).els).snd:Int)):=(by rw[z4,H7 hp.2 al (by rw[Q7 ab (ae7 ab) ab];with_reducible assumption),Q7 ab (ae7 ab) ab]);(first|rw[e1,e2]|simp only[e1,e2])<;>rfl)
   refine l6 G (x6 4 [0,1,2,6] (P5 p ((ss.getD k cD4).value) (C3 (U6 hs al).1 al))) [(15,iA (m7 pc (s6 p (ss.getD k cD4).value)))] fun G=>b6 (wp_seq (l6 G (x6 6 [0,1,2,7] (ih ((ss.getD k cD4).body) (m7 pc (s6 p (ss.getD k cD4).value)) ((z4 p strict (d+1) pc c (cE3 k ss)).snd+1) ((U6 hs al).2.1) (aR2 hc al))) [(3,iA ((aq3 p d strict ss pc c k).snd:Int)),(14,iA (aq3 p d strict ss pc c k).fst)] fun G=>b6 (wp_seq (wp_seq (l6 G f8 [(58,bA ((aq3 p d strict ss pc c k).fst==0))] fun G=>b6 (V3 (u:=((z4 p strict d (m7 pc (s6 p (ss.getD k cD4).value)) ((z4 p strict (d+(1:Nat)) pc c (cE3 k ss)).snd+(1:Nat)) (ss.getD k cD4).body).fst)) (v:=(0:Int)) G (fun h6 q6=>?_) fun h6 q6=>?_))))))
   ·
    refine wp_skip (b6 (wp_seq (j7 G f8 (rg 5) (aJ0 p ss []) ((1,.ref 3)::(2,iA pc)::(3,iA ((aq3 p d strict ss pc c k).snd:Int))::(aT6 strict k [(14,iA (aq3 p d strict ss pc c k).fst),(70,bA ((aq3 p d strict ss pc c k).fst !=0))])) fun G=>b6 ?_)));cases h7:((z4 p strict d (m7 pc (s6 p (ss.getD k cD4).value)) ((z4 p strict (d+(1:Nat)) pc c (cE3 k ss)).snd+(1:Nat)) (ss.getD k cD4).body).fst !=0)
    · have q7:=bne_eq_false_iff_eq.1 h7;exact False.elim al
    have q7:=bne_iff_ne.1 h7;refine rT G _ h7 (wp_seq (l6 G f8 [(10,iA (aq3 p d strict ss pc c k).fst),(11,iA ((aq3 p d strict ss pc c k).snd:Int))] fun G=>b6 (wp_ret (A5 (l7 (l7 (A5 (l7 ?_))))))));exact T9 (.tup [iA (z4 p strict d (m7 pc (s6 p (ss.getD k cD4).value)) ((z4 p strict (d+1) pc c (cE3 k ss)).snd+1) (ss.getD k cD4).body).fst,iA ((z4 p strict d (m7 pc (s6 p (ss.getD k cD4).value)) ((z4 p strict (d+1) pc c (cE3 k ss)).snd+1) (ss.getD k cD4).body).snd:Int)]) G (rg 4) (by have e1:((z4 p strict (d+1) pc c ss).fst:Int)=((z4 p strict d (m7 pc (s6 p (ss.getD k cD4).value)) ((z4 p strict (d+1) pc c (cE3 k ss)).snd+1) (ss.getD k cD4).body).fst):=(by rw[z4,H7 hp.2 al (by rw[X1 ab (ae8 ab) ab];with_reducible assumption),X1 ab (ae8 ab) ab]);have e2:(((z4 p strict (d+1) pc c ss).snd:Int):Int)=(((z4 p strict d (m7 pc (s6 p (ss.getD k cD4).value)) ((z4 p strict (d+1) pc c (cE3 k ss)).snd+1) (ss.getD k cD4).body).snd:Int)):=(by rw[z4,H7 hp.2 al (by rw[X1 ab (ae8 ab) ab];with_reducible assumption),X1 ab (ae8 ab) ab]);(first|rw[e1,e2]|simp only[e1,e2])<;>rfl)
   refine j7 G (x6 6 [0,1,2,8] (ih ((ss.getD k cD4).els) (m7 pc (s6 p (ss.getD k cD4).value)) ((aq3 p d strict ss pc c k).snd) ((U6 hs al).2.2) (aY2 hc al))) (rg 5) (aJ0 p ss []) ((1,.ref 3)::(2,iA pc)::(3,iA ((a79 p d strict ss pc c k).snd:Int))::(aT6 strict k [(14,iA (a79 p d strict ss pc c k).fst)])) fun G=>b6 (wp_seq (l6 G f8 [(70,bA ((a79 p d strict ss pc c k).fst !=0))] fun G=>b6 (rcN (u:=((z4 p strict d (m7 pc (s6 p (ss.getD k cD4).value)) (z4 p strict d (m7 pc (s6 p (ss.getD k cD4).value)) ((z4 p strict (d+(1:Nat)) pc c (cE3 k ss)).snd+(1:Nat)) (ss.getD k cD4).body).snd (ss.getD k cD4).els).fst)) (v:=(0:Int)) G (fun h8 q8=>?_) fun h8 q8=>?_)))
   · refine wp_skip (m8 (b6 (H0 G f8 [(12,iA ((k:Int)+1))] [wO ((k:Int)+1)] (o1 al) fun G=>b6 ?_)));exact P7 G (k+1) (⟨al,by rw[z4,ac2 hp.2 al,Q7 ab (ae8 ab) ab];with_reducible assumption⟩) al (rg 5) (ht:=by have e1:(((z4 p strict (d+1) pc c (cE3 (k+1) ss)).snd:Int):Int)=(((z4 p strict d (m7 pc (s6 p (ss.getD k cD4).value)) (z4 p strict d (m7 pc (s6 p (ss.getD k cD4).value)) ((z4 p strict (d+1) pc c (cE3 k ss)).snd+1) (ss.getD k cD4).body).snd (ss.getD k cD4).els).snd:Int)):=(by rw[z4,ac2 hp.2 al,Q7 ab (ae8 ab) ab]);(first|rw[e1]|simp only[e1])<;>rfl)
   refine wp_seq (l6 G f8 [(10,iA (a79 p d strict ss pc c k).fst),(11,iA ((a79 p d strict ss pc c k).snd:Int))] fun G=>b6 (wp_ret (A5 (l7 (l7 (A5 (l7 ?_)))))));exact T9 (.tup [iA (z4 p strict d (m7 pc (s6 p (ss.getD k cD4).value)) (z4 p strict d (m7 pc (s6 p (ss.getD k cD4).value)) ((z4 p strict (d+1) pc c (cE3 k ss)).snd+1) (ss.getD k cD4).body).snd (ss.getD k cD4).els).fst,iA ((z4 p strict d (m7 pc (s6 p (ss.getD k cD4).value)) (z4 p strict d (m7 pc (s6 p (ss.getD k cD4).value)) ((z4 p strict (d+1) pc c (cE3 k ss)).snd+1) (ss.getD k cD4).body).snd (ss.getD k cD4).els).snd:Int)]) G (rg 4) (by have e1:((z4 p strict (d+1) pc c ss).fst:Int)=((z4 p strict d (m7 pc (s6 p (ss.getD k cD4).value)) (z4 p strict d (m7 pc (s6 p (ss.getD k cD4).value)) ((z4 p strict (d+1) pc c (cE3 k ss)).snd+1) (ss.getD k cD4).body).snd (ss.getD k cD4).els).fst):=(by rw[z4,H7 hp.2 al (by rw[Q7 ab (ae8 ab) ab];with_reducible assumption),Q7 ab (ae8 ab) ab]);have e2:(((z4 p strict (d+1) pc c ss).snd:Int):Int)=(((z4 p strict d (m7 pc (s6 p (ss.getD k cD4).value)) (z4 p strict d (m7 pc (s6 p (ss.getD k cD4).value)) ((z4 p strict (d+1) pc c (cE3 k ss)).snd+1) (ss.getD k cD4).body).snd (ss.getD k cD4).els).snd:Int)):=(by rw[z4,H7 hp.2 al (by rw[Q7 ab (ae8 ab) ab];with_reducible assumption),Q7 ab (ae8 ab) ab]);(first|rw[e1,e2]|simp only[e1,e2])<;>rfl)
  refine wp_seq (l6 G f8 [(10,iA (ac6 p (ss.getD k cD4) pc strict)),(11,iA ((z4 p strict (d+1) pc c (cE3 k ss)).snd:Int))] fun G=>b6 (wp_ret (l7 (A5 (l7 (l7 (A5 (l7 ?_))))))));exact T9 (.tup [iA (ac6 p (ss.getD k cD4) pc strict),iA ((z4 p strict (d+1) pc c (cE3 k ss)).snd:Int)]) G (rg 4) (by have e1:((z4 p strict (d+1) pc c ss).fst:Int)=(ac6 p (ss.getD k cD4) pc strict):=(by rw[z4,H7 hp.2 al (by rw[aH1 ab];with_reducible assumption),aH1 ab]);have e2:(((z4 p strict (d+1) pc c ss).snd:Int):Int)=(((z4 p strict (d+1) pc c (cE3 k ss)).snd:Int)):=(by rw[z4,H7 hp.2 al (by rw[aH1 ab];with_reducible assumption),aH1 ab]);(first|rw[e1,e2]|simp only[e1,e2])<;>rfl)
theorem bp9(p:i6)(strict:Bool):∀(d:Nat) (ss:List c6) (pc:Int) (c:Nat),ss.all (j9 p.vars.length p.arrays.length d)=true->c+X8 ss<=4000000->j8.ok Tryz.prog (b49 p d ss pc c strict):=by
 intro d
 induction d with
 |zero=>
  intro ss pc c h hc
  cases ss with
  |nil=>exact bq0 p pc c strict
  |cons s r=>simp[j9]at h
 |succ d ih=>intro ss pc c h hc;exact bp8 p d strict ih ss pc c h hc
theorem aA8{p:i6}(h:n9 p=true):p.body.all (j9 p.vars.length p.arrays.length 5)=true/\X8 p.body<=60:=by
 simp only[n9,ai2,cD5,decide_eq_true_eq]at h
 exact⟨h.1.2,h.2⟩
theorem bU9(p:i6)(strict:Bool)(h:n9 p=true):j8.ok Tryz.prog (P1 176 [pA 0,.ref 2,iA 0,iA 0,bA strict] (pS p) (.tup [iA (z4 p strict 5 0 0 p.body).1,iA (z4 p strict 5 0 0 p.body).2])):=
 j8.dup (S:=pS p) (S':=pS p) (d:=.stmts p.body) (i:=2) (bp9 p strict 5 p.body 0 0 (aA8 h).1 (by have:=(aA8 h).2;omega)) rfl rfl rfl (fun ρ h=>by simp only[AV.vals,AV.val];rw[show ρ 3=ρ 2 from h];rfl) rfl
def X9(p:i6)(strict:Bool):Int×Int:=if n9 p then(if(z4 p strict 5 0 0 p.body).1=0 then(0,-1)else((z4 p strict 5 0 0 p.body).1,((z4 p strict 5 0 0 p.body).2:Int)))else(5,-1)
section
variable{p:i6}{strict:Bool}
theorem b85(h:n9 p=false):X9 p strict=(5,-1):=by rw[X9,h];rfl
theorem bz5(h:n9 p=true)(h1:(z4 p strict 5 0 0 p.body).1=0):X9 p strict=(0,-1):=by rw[X9,h,h1];rfl
theorem bT9(h:n9 p=true)(h1:¬(z4 p strict 5 0 0 p.body).1=0):X9 p strict=((z4 p strict 5 0 0 p.body).1,((z4 p strict 5 0 0 p.body).2:Int)):=by rw[X9,h,if_neg h1];rfl
end
theorem bF5(p:i6)(strict:Bool)(hb:j6 p.body<=1048576):j8.ok Tryz.prog (P1 131 [pA 0,bA strict] (pS p) (.tup [iA (X9 p strict).1,iA (X9 p strict).2])):=by
  refine D9 24 Tryz.func131 [dI p.vars,dI p.arrays,dT p.body] [(0,pA 0),(1,bA strict)] fun G=>?_;refine wp_seq (j7 G f8 (rg 4) [dI p.vars,dI p.arrays,dT p.body,.box (pL 0)] [(1,bA strict),(2,.ptr 3 0),(4,iA 0),(5,iA 0)] fun G=>b6 (wp_seq (wp_seq (l6 G (x6 1 [0,1,2] (T3 p ai)) [(10,.v (.bool !n9 p))] fun G=>b6 ?_))));cases h0:(!n9 p)
  ·
   have q0:(n9 p)=true:=(Eq.mp (cG1 _) h0);refine rF G _ h0 (wp_skip (b6 (wp_seq (j7 G (x6 4 [0,1,2] (bU9 p strict ai)) [0,1,2] [dI p.vars,dI p.arrays,dT p.body] [(4,iA 0),(5,iA 0),(6,iA (z4 p strict 5 0 0 p.body).fst),(7,iA ((z4 p strict 5 0 0 p.body).snd:Int))] fun G=>b6 (wp_seq (wp_seq (l6 G f8 [(20,bA ((z4 p strict 5 0 0 p.body).fst==0))] fun G=>b6 (V3 G (fun h1 q1=>?_) fun h1 q1=>?_))))))))
   · refine wp_skip (b6 (wp_seq (l6 G f8 [(4,iA (z4 p strict 5 0 0 p.body).fst),(5,iA ((z4 p strict 5 0 0 p.body).snd:Int))] fun G=>b6 (wp_ret ?_))));exact T9 (.tup [iA (z4 p strict 5 0 0 p.body).fst,iA ((z4 p strict 5 0 0 p.body).snd:Int)]) G [0,1,2] (by have e1:((X9 p strict).fst:Int)=((z4 p strict 5 0 0 p.body).fst):=(by rw[bT9 ai ai];done);have e2:((X9 p strict).snd:Int)=(((z4 p strict 5 0 0 p.body).snd:Int)):=(by rw[bT9 ai ai];done);(first|rw[e1,e2]|simp only[e1,e2])<;>rfl)
   refine wp_seq (l6 G f8 [(4,iA (z4 p strict 5 0 0 p.body).fst),(5,iA (-1))] fun G=>b6 (wp_ret (l7 ?_)));exact T9 (.tup [iA (z4 p strict 5 0 0 p.body).fst,iA (-1)]) G [0,1,2] (by have e1:((X9 p strict).fst:Int)=((z4 p strict 5 0 0 p.body).fst):=((congrArg Prod.fst (bz5 ai ai)).trans (Eq.symm ai));have e2:((X9 p strict).snd:Int)=(-1):=(by rw[bz5 ai ai];done);(first|rw[e1,e2]|simp only[e1,e2])<;>rfl)
  have q0:(n9 p)=false:=(Eq.mp (cF7 _) h0);refine rT G _ h0 (wp_seq (l6 G f8 [(4,iA 5),(5,iA (-1))] fun G=>b6 (wp_ret (l7 ?_))));exact T9 (.tup [iA 5,iA (-1)]) G [0,1,2] (by have e1:((X9 p strict).fst:Int)=(5):=(by rw[b85 ai];done);have e2:((X9 p strict).snd:Int)=(-1):=(by rw[b85 ai];done);(first|rw[e1,e2]|simp only[e1,e2])<;>rfl)
theorem bh6(p:i6)(hb:j6 p.body<=1048576):j8.ok Tryz.prog (P1 89 [pA 0] (pS p) (.tup [iA (X9 p false).1,iA (X9 p false).2])):=by
 refine D9 8 Tryz.func89 [dI p.vars,dI p.arrays,dT p.body] [(0,pA 0)] fun G=>?_;refine wp_seq (j7 G f8 (rg 4) [dI p.vars,dI p.arrays,dT p.body,.box (pL 0)] [(1,.ptr 3 0),(2,iA 0),(3,iA 0)] fun G=>b6 (wp_seq (j7 G (x6 1 [0,1,2] (bF5 p false ai)) [0,1,2] [dI p.vars,dI p.arrays,dT p.body] [(2,iA (X9 p false).fst),(3,iA (X9 p false).snd)] fun G=>b6 (wp_ret ?_))));exact G7 G [0,1,2]
section
variable{p:i6}{s:c6}{cx:Int}
end
theorem cc7:∀x:Fin 4,∀y:Fin 4,∃z:Fin 4,m7 x.val y.val=(z.val:Int):=by decide+kernel
theorem aM8{x y:Int}(hx:i9 x=true)(hy:i9 y=true):i9 (m7 x y)=true:=by
 obtain⟨a,rfl⟩:=aa1 hx
 obtain⟨b,rfl⟩:=aa1 hy
 obtain⟨c,h⟩:=cc7 a b
 rw[h]
 simp[i9];omega
theorem ao6{l:List Int}(h:l.all i9=true)(i:Nat):i9 (l.getD i 0)=true:=by
 rcases cF9 i l.length with hi|hi
 ·rw[m6 hi];exact cE2.1 h _ (cF3 hi)
 rw[cD7,cF6 hi];rfl
theorem ax7{vs ars:List Int}(h1:vs.all i9=true)(h2:ars.all i9=true):∀(d:Nat) (e:c7),i9 (j5 vs ars d e)=true
 |0,_=>rfl
 | d + 1, e => by
  rw[j5]
  have key:∀(ks:List c7) (a:Int),i9 a=true->i9 (ks.foldl (fun a k=>m7 a (j5 vs ars d k)) a)=true:=by
   intro ks
   induction ks with
   |nil=>intro a ha;exact ha
   |cons x r ih=>intro a ha;rw[List.foldl_cons];exact ih _ (aM8 ha (ax7 h1 h2 d x))
  refine key _ _ ?_
  unfold aF5
  split
  ·exact ao6 h1 _
  split
  ·exact ao6 h2 _
  rfl
def bP5(p:i6):Bool:=p.vars.all i9&&p.arrays.all i9
theorem bm1{p:i6}(h:n9 p=true):bP5 p=true:=by
 unfold n9 F9 at h
 simp only[cD5]at h
 unfold bP5
 rw[h.1.1.1.1.1.1,h.1.1.1.1.1.2];rfl
def ai9{α:Type}(f:α->Bool)(l:List α):Int:=match l.findIdx? f with
 |some i=>i
 |none=> -1
theorem aX4{α:Type}{f:α->Bool}{l:List α}{k:Nat}{z:α}(hk:k<l.length)(h:(l.take k).any f=false)(hf:f (l.getD k z)=true):ai9 f l=k:=by
 have:l.findIdx? f=some k:=by
  rw[List.findIdx?_eq_some_iff_getElem]
  rw[m6 hk]at hf
  refine⟨hk,hf,fun j hj=>?_⟩
  rw[List.any_eq_false]at h
  have hm:l[j]∈l.take k:=List.mem_take_iff_getElem.2 ⟨j,al,rfl⟩
  exact h _ hm
 unfold ai9;rw[this]
theorem aQ0{α:Type}{f:α->Bool}{l:List α}(h:l.any f=false):ai9 f l= -1:=by
 have:l.findIdx? f=none:=by
  rw[List.findIdx?_eq_none_iff]
  intro x hx
  rw[List.any_eq_false]at h
  simpa using h x hx
 unfold ai9;rw[this]
theorem aX5{α:Type}(f:α->Bool)(l:List α):decide (ai9 f l>=0)=l.any f:=by
 cases h:l.any f
 ·rw[aQ0 h];rfl
 unfold ai9
 cases h2:l.findIdx? f with
 |none=>
  rw[List.findIdx?_eq_none_iff]at h2
  obtain⟨x,hx,hf⟩:=List.any_eq_true.1 h
  rw[h2 x hx]at hf;cases hf
 |some i=>simp
section
variable{p:i6}{s:c6}
end
section
variable{R:c6×Int->Int}{c a:Int}{n:Nat}{x:c6×Int}
end
section
variable{R:c6×Int->Int}{p:i6}{d:Nat}{cx:Int}{ss:List c6}{c b:Int}{n k:Nat}
end
abbrev P2:Type:=List Int×List Int
def bv(x:Int):BitVec 64:=BitVec.ofInt 64 x
def ofb(b:BitVec 64):Int:=IntKind.i64.wrap (b.toNat:Int)
theorem ci2(b:BitVec 64):bv (ofb b)=b:=by
 apply BitVec.eq_of_toNat_eq
 unfold bv ofb
 rw[BitVec.toNat_ofInt]
 have h:=b.isLt
 unfold IntKind.wrap
 simp only[IntKind.bits,IntKind.signed,Bool.true_and,decide_eq_true_eq]
 split<;>omega
theorem b06(x y:Int):m7 x y=ofb (bv x|||bv y):=rfl
theorem bV5(x y:Int):bv (m7 x y)=bv x|||bv y:=by rw[b06,ci2]
def leI(x y:Int):Prop:=bv x|||bv y=bv y
theorem leI.refl(x:Int):leI x x:=BitVec.or_self
theorem leI.trans{x y z:Int}(h:leI x y)(k:leI y z):leI x z:=by
 unfold leI at*
 rw[<-k, <-BitVec.or_assoc,h]
theorem aO2(x y:Int):leI x (m7 x y):=by unfold leI;rw[bV5, <-BitVec.or_assoc,BitVec.or_self]
theorem ah0{x y a b:Int}(h:leI x a)(k:leI y b):leI (m7 x y) (m7 a b):=by
 unfold leI at*
 rw[bV5,bV5,BitVec.or_assoc, <-BitVec.or_assoc (bv y),BitVec.or_comm (bv y) (bv a),BitVec.or_assoc (bv a),k, <-BitVec.or_assoc,h]
theorem ci3:∀x:Fin 4,∀y:Fin 4,bv x.val=bv y.val->x=y:=by decide+kernel
theorem ce6:∀x:Fin 4,∀y:Fin 4,bv x.val|||bv y.val=bv y.val->x.val<=y.val:=by decide+kernel
theorem leI.anti{x y:Int}(h:leI x y)(k:leI y x)(hx:i9 x=true)(hy:i9 y=true):x=y:=by
 obtain⟨a,rfl⟩:=aa1 hx
 obtain⟨b,rfl⟩:=aa1 hy
 unfold leI at*
 rw[BitVec.or_comm,h]at k
 rw[ci3 b a k]
theorem leI.nat{x y:Int}(h:leI x y)(hx:i9 x=true)(hy:i9 y=true):x.toNat<=y.toNat:=by
 obtain⟨a,rfl⟩:=aa1 hx
 obtain⟨b,rfl⟩:=aa1 hy
 have:=ce6 a b h
 omega
def leP(q r:P2):Prop:=(∀i,leI (q.1.getD i 0) (r.1.getD i 0))/\∀i,leI (q.2.getD i 0) (r.2.getD i 0)
def shP(q r:P2):Prop:=r.1.length=q.1.length/\r.2.length=q.2.length
def okP(q:P2):Prop:=q.1.all i9=true/\q.2.all i9=true
theorem leP.refl(q:P2):leP q q:=⟨fun _=>leI.refl _,fun _=>leI.refl _⟩
theorem leP.trans{q r s:P2}(h:leP q r)(k:leP r s):leP q s:=⟨fun i=>(h.1 i).trans (k.1 i),fun i=>(h.2 i).trans (k.2 i)⟩
theorem shP.refl(q:P2):shP q q:=⟨rfl,rfl⟩
theorem shP.trans{q r s:P2}(h:shP q r)(k:shP r s):shP q s:=⟨k.1.trans h.1,k.2.trans h.2⟩
theorem shP.symm{q r:P2}(h:shP q r):shP r q:=⟨h.1.symm,h.2.symm⟩
theorem aX0{a b:List Int}(hl:b.length=a.length)(h:∀i,leI (a.getD i 0) (b.getD i 0))(k:∀i,leI (b.getD i 0) (a.getD i 0))(ha:a.all i9=true)(hb:b.all i9=true):a=b:=by
 apply List.ext_getElem al
 intro i h1 h2
 have:=(h i).anti (k i) (ao6 ha i) (ao6 hb i)
 rw[m6 h1,m6 h2]at this
 exact this
theorem leP.anti{q r:P2}(h:leP q r)(k:leP r q)(hs:shP q r)(hq:okP q)(hr:okP r):q=r:=
 Prod.ext (aX0 hs.1 h.1 k.1 hq.1 hr.1) (aX0 hs.2 h.2 k.2 hq.2 hr.2)
theorem bN2{q r:P2}(h:leP q r)(e:c7):leI (aF5 q.1 q.2 e) (aF5 r.1 r.2 e):=by
 unfold aF5
 split
 ·exact h.1 _
 split
 ·exact h.2 _
 exact leI.refl _
theorem am2{q r:P2}(h:leP q r):∀(d:Nat) (e:c7),leI (j5 q.1 q.2 d e) (j5 r.1 r.2 d e)
 |0,_=>leI.refl _
 | d + 1, e => by
  rw[j5,j5]
  have key:∀(ks:List c7) (a b:Int),leI a b->leI (ks.foldl (fun a k=>m7 a (j5 q.1 q.2 d k)) a) (ks.foldl (fun a k=>m7 a (j5 r.1 r.2 d k)) b):=by
   intro ks
   induction ks with
   |nil=>intro a b hab;exact hab
   |cons x t ih=>intro a b hab;rw[List.foldl_cons,List.foldl_cons];exact ih _ _ (ah0 hab (am2 h d x))
  exact key _ _ _ (bN2 h e)
def N2(q:P2)(s:c6)(cx:Int):P2:=
 if s.kind=1 then(q.1.set s.target.toNat (m7 (m7 (q.1.getD s.target.toNat 0) (j5 q.1 q.2 5 s.value)) cx),q.2)
 else if s.kind=2 then(q.1,q.2.set s.target.toNat (m7 (m7 (m7 (q.2.getD s.target.toNat 0) (j5 q.1 q.2 5 s.value)) (j5 q.1 q.2 5 s.index)) cx))
 else q
def aj4(q:P2)(s:c6)(cx:Int):Int:=if s.kind=3 then m7 cx (j5 q.1 q.2 5 s.value)else cx
def upS(b:Bool):Nat->P2->Int->c6->P2
 |0,q,_,_=>q
 |d+1,q,cx,s=>s.els.foldl (fun r t=>upS b d r (aj4 (if b then s.body.foldl (fun r t=>upS b d r (aj4 (N2 q s cx) s cx) t) (N2 q s cx)else N2 q s cx) s cx) t) (s.body.foldl (fun r t=>upS b d r (aj4 (N2 q s cx) s cx) t) (N2 q s cx))
abbrev C8(b:Bool)(d:Nat)(q:P2)(cx:Int)(ss:List c6):P2:=ss.foldl (fun r t=>upS b d r cx t) q
theorem ak6(b:Bool)(d:Nat)(q:P2)(cx:Int)(s:c6):upS b (d+1) q cx s=C8 b d (C8 b d (N2 q s cx) (aj4 (N2 q s cx) s cx) s.body) (aj4 (if b then C8 b d (N2 q s cx) (aj4 (N2 q s cx) s cx) s.body else N2 q s cx) s cx) s.els:=by rw[upS]
theorem aL7(l:List Int)(t i:Nat)(x:Int):(l.set t x).getD i 0=if t=i/\t<l.length then x else l.getD i 0:=by
 simp only[cD7,cH9]
 by_cases h:t=i
 ·subst h
  by_cases h2:t<l.length
  ·simp[h2]
  simp[h2]
 simp[h]
theorem bv0{l:List Int}{t:Nat}{x:Int}(h:l.all i9=true)(hx:i9 x=true):(l.set t x).all i9=true:=by
 rw[cE2]at*
 intro y hy
 rcases List.mem_or_eq_of_mem_set hy with h1|h1
 ·exact h y h1
 rw[h1];exact hx
theorem bm7(q:P2)(s:c6)(cx:Int):shP q (N2 q s cx):=by
 unfold N2
 split
 ·exact⟨an,rfl⟩
 split
 ·exact⟨rfl,an⟩
 exact shP.refl _
theorem ba4{l:List Int}{t:Nat}{x:Int}(h:leI (l.getD t 0) x)(i:Nat):leI (l.getD i 0) ((l.set t x).getD i 0):=by
 rw[aL7]
 split
 ·rename_i h1;rw[<-h1.1];exact h
 exact leI.refl _
theorem ba3{l m:List Int}{t:Nat}{x y:Int}(hl:m.length=l.length)(h:∀i,leI (l.getD i 0) (m.getD i 0))(hx:leI x y)(i:Nat):leI ((l.set t x).getD i 0) ((m.set t y).getD i 0):=by
 rw[aL7,aL7,hl]
 split
 ·exact hx
 exact h i
theorem bN5(q:P2)(s:c6)(cx:Int):leP q (N2 q s cx):=by
 unfold N2
 split
 ·exact⟨ba4 ((aO2 _ _).trans (aO2 _ _)),fun _=>leI.refl _⟩
 split
 ·exact⟨fun _=>leI.refl _,ba4 (((aO2 _ _).trans (aO2 _ _)).trans (aO2 _ _))⟩
 exact leP.refl _
theorem bN4{q r:P2}(h:leP q r)(hs:shP q r){cx cy:Int}(hc:leI cx cy)(s:c6):leP (N2 q s cx) (N2 r s cy):=by
 unfold N2
 split
 ·exact⟨ba3 hs.1 h.1 (ah0 (ah0 (h.1 _) (am2 h 5 _)) hc),h.2⟩
 split
 ·exact⟨h.1,ba3 hs.2 h.2 (ah0 (ah0 (ah0 (h.2 _) (am2 h 5 _)) (am2 h 5 _)) hc)⟩
 exact h
theorem cd1{q:P2}(h:okP q){cx:Int}(hc:i9 cx=true)(s:c6):okP (N2 q s cx):=by
 unfold N2
 split
 ·exact⟨bv0 h.1 (aM8 (aM8 (ao6 h.1 _) (ax7 h.1 h.2 5 _)) hc),h.2⟩
 split
 ·exact⟨h.1,bv0 h.2 (aM8 (aM8 (aM8 (ao6 h.2 _) (ax7 h.1 h.2 5 _)) (ax7 h.1 h.2 5 _)) hc)⟩
 exact h
theorem be0{q r:P2}(h:leP q r){cx cy:Int}(hc:leI cx cy)(s:c6):leI (aj4 q s cx) (aj4 r s cy):=by
 unfold aj4
 split
 ·exact ah0 hc (am2 h 5 _)
 exact hc
theorem bQ8{q:P2}(h:okP q){cx:Int}(hc:i9 cx=true)(s:c6):i9 (aj4 q s cx)=true:=by
 unfold aj4
 split
 ·exact aM8 hc (ax7 h.1 h.2 5 _)
 exact hc
theorem ao7{F:P2->c6->P2}(hF:∀q s,shP q (F q s)):∀(ss:List c6) (q:P2),shP q (ss.foldl F q)
 |[],q=>shP.refl q
 |s::r,q=>(hF q s).trans (ao7 hF r _)
theorem ag0{F:P2->c6->P2}(hF:∀q s,leP q (F q s)):∀(ss:List c6) (q:P2),leP q (ss.foldl F q)
 |[],q=>leP.refl q
 |s::r,q=>(hF q s).trans (ag0 hF r _)
theorem aH7{F:P2->c6->P2}(hF:∀q s,okP q->okP (F q s)):∀(ss:List c6) (q:P2),okP q->okP (ss.foldl F q)
 |[],_,h=>h
 |s::r,q,h=>aH7 hF r _ (hF q s h)
theorem ao8{F G:P2->c6->P2}(hF:∀q s,shP q (F q s))(hG:∀q s,shP q (G q s))(h:∀q r s,shP q r->leP q r->leP (F q s) (G r s)):∀(ss:List c6) (q r:P2),shP q r->leP q r->leP (ss.foldl F q) (ss.foldl G r)
 |[],_,_,_,hl=>hl
 |s::t,q,r,hs,hl=>ao8 hF hG h t _ _ (((hF q s).symm.trans hs).trans (hG r s)) (h q r s hs hl)
theorem ak5(b:Bool):∀(d:Nat) (cx:Int) (q:P2) (s:c6),shP q (upS b d q cx s)
 |0,_,q,_=>shP.refl q
 |d+1,cx,q,s=>by
  rw[ak6]
  exact((bm7 q s cx).trans (ao7 (fun q s=>ak5 b d _ q s) _ _)).trans (ao7 (fun q s=>ak5 b d _ q s) _ _)
theorem aG9(b:Bool):∀(d:Nat) (cx:Int) (q:P2) (s:c6),leP q (upS b d q cx s)
 |0,_,q,_=>leP.refl q
 |d+1,cx,q,s=>by
  rw[ak6]
  exact((bN5 q s cx).trans (ag0 (fun q s=>aG9 b d _ q s) _ _)).trans (ag0 (fun q s=>aG9 b d _ q s) _ _)
theorem bJ3(b:Bool):∀(d:Nat) (cx:Int) (q:P2) (s:c6),i9 cx=true->okP q->okP (upS b d q cx s)
 |0,_,_,_,_,h=>h
 |d+1,cx,q,s,hc,h=>by
  rw[ak6]
  have h1:=cd1 h hc s
  have h2:okP (C8 b d (N2 q s cx) (aj4 (N2 q s cx) s cx) s.body):=aH7 (fun q t hq=>bJ3 b d _ q t (bQ8 h1 hc s) hq) _ _ h1
  refine aH7 (fun q t hq=>bJ3 b d _ q t (bQ8 ?_ hc s) hq) _ _ h2
  split
  ·exact h2
  exact h1
theorem a01{b b':Bool}(hb:b=true->b'=true):∀(d:Nat) (cx cy:Int) (q r:P2) (s:c6),leI cx cy->shP q r->leP q r->leP (upS b d q cx s) (upS b' d r cy s)
 |0,_,_,_,_,_,_,_,h=>h
 | d + 1, cx, cy, q, r, s, hc, hs, h => by
  rw[ak6,ak6]
  have h1:=bN4 h hs hc s
  have s1:shP (N2 q s cx) (N2 r s cy):=((bm7 q s cx).symm.trans hs).trans (bm7 r s cy)
  have hi:=be0 h1 hc s
  have h2:leP (C8 b d (N2 q s cx) (aj4 (N2 q s cx) s cx) s.body) (C8 b' d (N2 r s cy) (aj4 (N2 r s cy) s cy) s.body):=ao8 (fun q t=>ak5 b d _ q t) (fun q t=>ak5 b' d _ q t) (fun q r t hs hl=>a01 hb d _ _ q r t hi hs hl) _ _ _ s1 h1
  have s2:shP (C8 b d (N2 q s cx) (aj4 (N2 q s cx) s cx) s.body) (C8 b' d (N2 r s cy) (aj4 (N2 r s cy) s cy) s.body):=((ao7 (fun q t=>ak5 b d _ q t) _ _).symm.trans s1).trans (ao7 (fun q t=>ak5 b' d _ q t) _ _)
  refine ao8 (fun q t=>ak5 b d _ q t) (fun q t=>ak5 b' d _ q t) (fun q r t hs hl=>a01 hb d _ _ q r t ?_ hs hl) _ _ _ s2 h2
  refine be0 ?_ hc s
  cases b with
  |true=>
   have e:=hb rfl
   subst e
   exact h2
  |false=>
   simp only[Bool.false_eq_true,if_false]
   split
   ·exact h1.trans (ag0 (fun q t=>aG9 b' d _ q t) _ _)
   exact h1
section
variable{b:Bool}{d:Nat}{cx:Int}{q r:P2}{ss:List c6}
theorem as5:shP q (C8 b d q cx ss):=ao7 (fun q t=>ak5 b d _ q t) _ _
theorem aK5:leP q (C8 b d q cx ss):=ag0 (fun q t=>aG9 b d _ q t) _ _
theorem bJ4(hc:i9 cx=true)(h:okP q):okP (C8 b d q cx ss):=aH7 (fun q t hq=>bJ3 b d _ q t hc hq) _ _ h
end
def a06(l:List Int):Nat:=(l.map Int.toNat).sum
def aS1(q:P2):Nat:=a06 q.1+a06 q.2
theorem a05:∀{a b:List Int},b.length=a.length->a.all i9=true->b.all i9=true->(∀i,leI (a.getD i 0) (b.getD i 0))->a06 a<=a06 b/\(a06 a=a06 b->a=b)
 |[],b,hl,_,_,_=>by rw[cF4 hl];exact⟨cE1 _,fun _=>rfl⟩
 |x::r,[],hl,_,_,_=>by cases hl
 |x::r,y::t,hl,ha,hb,h=>by
  simp only[List.all_cons,cD5]at ha hb
  have h0:=h 0
  simp at h0
  obtain⟨k1,k2⟩:=a05 (a:=r) (b:=t) (by simpa using hl) ha.2 hb.2 fun i=>by have:=h (i+1);simpa using this
  have k3:=h0.nat ha.1 hb.1
  simp only[a06,cH1,List.sum_cons]at k1 k2 ⊢
  refine⟨al,fun e=>?_⟩
  obtain⟨a,rfl⟩:=aa1 ha.1
  obtain⟨b,rfl⟩:=aa1 hb.1
  rw[k2 al]
  congr 1
  omega
theorem aL0:∀{l:List Int},l.all i9=true->a06 l<=3*l.length
 |[],_=>cG8 _
 |x::r,h=>by
  simp only[List.all_cons,cD5]at h
  have h1:=aL0 h.2
  obtain⟨a,rfl⟩:=aa1 h.1
  simp only[a06,cH1,List.sum_cons,cE5]at h1 ⊢
  omega
theorem bu3{q r:P2}(hs:shP q r)(hq:okP q)(hr:okP r)(h:leP q r)(hne:¬r=q):aS1 q<aS1 r:=by
 obtain⟨a1,a2⟩:=a05 hs.1 hq.1 hr.1 h.1
 obtain⟨b1,b2⟩:=a05 hs.2 hq.2 hr.2 h.2
 unfold aS1
 refine Nat.lt_of_not_le fun hle=>hne (Prod.ext (a2 al).symm (b2 al).symm)
theorem a93{q:P2}(hq:okP q):aS1 q<=3*(q.1.length+q.2.length):=by
 have h1:=aL0 hq.1
 have h2:=aL0 hq.2
 unfold aS1;omega
def aj8(b:List c6)(p q:P2):Prop:=shP p q/\okP q/\leP p q/\∀r,shP p r->okP r->leP p r->C8 true 5 r 0 b=r->leP q r
theorem at7{b:List c6}{p:P2}(h:okP p):aj8 b p p:=⟨shP.refl _,h,leP.refl _,fun _ _ _ h _=>h⟩
theorem ao5{b:List c6}{p q:P2}{f:Bool}(h:aj8 b p q):aj8 b p (C8 f 5 q 0 b):=
 ⟨h.1.trans as5,bJ4 rfl h.2.1,h.2.2.1.trans aK5,fun r h1 h2 h3 h4=>by
  have h5:=h.2.2.2 r h1 h2 h3 h4
  have:=ao8 (fun q t=>ak5 f 5 0 q t) (fun q t=>ak5 true 5 0 q t) (fun q r t hs hl=>a01 (b:=f) (b':=true) (fun _=>rfl) 5 0 0 q r t (leI.refl _) hs hl) b q r (h.1.symm.trans h1) h5
  rw[show b.foldl (fun q t=>upS true 5 q 0 t) r=r from h4]at this
  exact this⟩
theorem be2{b:List c6}{p q r:P2}(hq:aj8 b p q)(hr:aj8 b p r)(fq:C8 true 5 q 0 b=q)(fr:C8 true 5 r 0 b=r):q=r:=
 (hq.2.2.2 r hr.1 hr.2.1 hr.2.2.1 fr).anti (hr.2.2.2 q hq.1 hq.2.1 hq.2.2.1 fq) (hq.1.symm.trans hr.1) hq.2.1 hr.2.1
def aS5(b:List c6):Nat->P2->P2
 |0,q=>q
 |n+1,q=>aS5 b n (C8 true 5 q 0 b)
def aB0(p:i6):P2:=aS5 p.body 64 (p.vars,p.arrays)
theorem be3{b:List c6}{p:P2}:∀(n:Nat) (q:P2),aj8 b p q->aj8 b p (aS5 b n q)
 |0,_,h=>h
 |n+1,q,h=>be3 n _ (ao5 h)
theorem be4{b:List c6}:∀(n:Nat) {q:P2},C8 true 5 q 0 b=q->aS5 b n q=q
 |0,_,_=>rfl
 |n+1,q,h=>by rw[aS5,h];exact be4 n h
theorem be5{b:List c6}{p:P2}:∀(n:Nat) (q:P2),aj8 b p q->C8 true 5 (aS5 b n q) 0 b=aS5 b n q\/aS1 q+n<=aS1 (aS5 b n q)
 |0,_,_=>.inr (cE1 _)
 | n + 1, q, h => by
  rw[aS5]
  by_cases e:C8 true 5 q 0 b=q
  ·left
   rw[e,be4 n e,e]
  have h1:=bu3 as5 h.2.1 (bJ4 rfl h.2.1) aK5 e
  rcases be5 n _ (ao5 (f:=true) h)with h2|h2
  ·exact .inl h2
  right;omega
theorem a40{p:i6}(h:n9 p=true):okP (p.vars,p.arrays):=by
 have:=bm1 h
 simp only[bP5,cD5]at this
 exact this
theorem aO7{p:i6}(h:n9 p=true):aj8 p.body (p.vars,p.arrays) (aB0 p):=be3 64 _ (at7 (a40 h))
theorem bR1{p:i6}(h:n9 p=true)(hl:p.vars.length+p.arrays.length<=14):C8 true 5 (aB0 p) 0 p.body=aB0 p:=by
 rcases be5 (b:=p.body) 64 (p.vars,p.arrays) (at7 (a40 h))with h1|h1
 ·exact h1
 have h2:=aO7 h
 have h3:=a93 h2.2.1
 have h4:=h2.1
 have h5:aS5 p.body 64 (p.vars,p.arrays)=aB0 p:=rfl
 rw[h5]at h1
 rw[h4.1,h4.2]at h3
 simp only at h3
 omega
theorem by1{p:i6}{q:P2}(h:n9 p=true)(hl:p.vars.length+p.arrays.length<=14)(hq:aj8 p.body (p.vars,p.arrays) q)(hf:C8 true 5 q 0 p.body=q):aB0 p=q:=
 be2 (aO7 h) hq (bR1 h hl) hf
theorem bu2{a b:c7}(h:¬a=b):N6 a b=false:=by
 cases e:N6 a b
 ·rfl
 exact absurd ((O4 a b).1 e) h
section
variable{a b:c7}{k:Nat}
theorem sx1(h:¬a.kind=b.kind):N6 a b=false:=bu2 fun e=>h (by rw[e])
theorem sx2(h:¬a.value=b.value):N6 a b=false:=bu2 fun e=>h (by rw[e])
theorem sx3(h:¬(a.kids.length:Int)=b.kids.length):N6 a b=false:=bu2 fun e=>h (by rw[e])
theorem sx4(h:N6 (a.kids.getD k cD4) (b.kids.getD k cD4)=false):N6 a b=false:=bu2 fun e=>by
 subst e
 rw[(O4 _ _).2 rfl]at h;cases h
theorem aA2{α:Type}{l m:List α}{k:Nat}{z:α}(h:l.take k=m.take k)(h1:k<l.length)(h2:k<m.length)(e:l.getD k z=m.getD k z):l.take (k+1)=m.take (k+1):=by
 rw[o0 _ _ h1,o0 _ _ h2,h, <-m6 (d:=z) h1, <-m6 (d:=z) h2,e]
theorem aK8{α:Type}{l m:List α}{k:Nat}(h:l.take k=m.take k)(h1:l.length<=k)(h2:(l.length:Int)=m.length):l=m:=by
 rw[cF0 h1,cF0 al]at h
 exact h
theorem sx5(h1:a.kind=b.kind)(h2:a.value=b.value)(h3:(a.kids.length:Int)=b.kids.length)(h:a.kids.take k=b.kids.take k)(hk:a.kids.length<=k):N6 a b=true:=by
 refine(O4 _ _).2 ?_
 rw[<-c7.eta a, <-c7.eta b,h1,h2,aK8 h hk h3]
end
abbrev sxC(a b:c7):j8:=P1 198 [eA a 0,eA b 1] [dE a.kids,dE b.kids] (bA (N6 a b))
theorem bZ1(x y:c7)(ih:∀(u:c7),u∈x.kids->∀(v:c7),j8.ok Tryz.prog (sxC u v)):j8.ok Tryz.prog (sxC x y):=by
  refine D9 46 Tryz.func198 [dE x.kids,dE y.kids] [(0,eA x 0),(1,eA y 1)] fun G=>?_;have hl:x.kids.length<=9223372036854775807:=G.len 0 (d:=.exprs x.kids) aj;refine wp_seq (j7 G f8 [0,1,2,10] [dE x.kids,dE y.kids,.box (eL x 0),.box (eL y 1)] [(2,.ptr 2 0),(3,.ptr 3 0),(4,bA false)] fun G=>b6 (wp_seq (wp_seq ?_)));cases h0:(x.kind !=y.kind)
  ·
   have q0:=bne_eq_false_iff_eq.1 h0;cases h1:(x.value !=y.value)
   ·
    have q1:=bne_eq_false_iff_eq.1 h1;refine l6 G (H2 (fc h0 (fc h1 fz)) (us [(6,10,0),(1011,1011,0),(13,19,1),(1020,1020,1)])) [(26,bA ((x.kids.length:Int) !=(y.kids.length:Int)))] fun G=>b6 (rcN G (fun h2 q2=>?_) fun h2 q2=>?_)
    ·
     refine wp_skip (b6 (wp_seq (wp_seq (C6 G f8 [(2,.ptr 2 0),(3,.ptr 3 0),(4,bA false),(5,iA 0)] fun G=>b6 (wp_block ?_)))));refine t9 (κ:=Nat) (fun k=>k<=x.kids.length/\x.kids.take k=y.kids.take k) (fun k=>x.kids.length-k) (fun k=>[dE x.kids,dE y.kids,.box (eL x 0),.box (eL y 1)]) (fun k=>[(2,.ptr 2 0),(3,.ptr 3 0),(4,bA false),(5,iA k)]) 0 (by simp[h0,h1,h2]) (x7.at G _ _) ?_;clear G;intro k ρ a w hp G;refine wp_seq (wp_seq (l6 G f8 [(31,bA (decide ((k:Int)<x.kids.length)))] fun G=>b6 (rcD G (fun h3 q3=>?_) fun h3 q3=>?_)))
     · refine wp_exit (t4 (t4 (t3 (b6 (wp_seq (j7 G f8 [0,1] [dE x.kids,dE y.kids] [(4,bA true)] fun G=>b6 (wp_ret ?_)))))));exact I8 true G [0,1] (sx5 al al al hp.2 al)
     refine wp_skip (b6 (wp_seq (wp_block (wp_seq (aj3 G (x6 10 [36,76] (ih (x.kids.getD k cD4) (ax8 al) (y.kids.getD k cD4))) [0,1,0,7,15,0,32,0,224,480,1023,2047] [(45,.v (.bool !N6 (x.kids.getD k cD4) (y.kids.getD k cD4)))] (iX k k x.kids.length (iX k k y.kids.length [])) (iK al (iK al cF1)) fun G=>b6 ?_)))));cases h4:(!N6 (x.kids.getD k cD4) (y.kids.getD k cD4))
     · have q4:(N6 (x.kids.getD k cD4) (y.kids.getD k cD4))=true:=(Eq.mp (cG1 _) h4);refine rF G _ h4 (wp_skip (m8 (b6 (H0 G f8 [(5,iA ((k:Int)+1))] [wO ((k:Int)+1)] (o1 al) fun G=>b6 ?_))));exact P7 G (k+1) (⟨al,aA2 hp.2 al al ((O4 _ _).1 ab)⟩) al (rg 4)
     have q4:(N6 (x.kids.getD k cD4) (y.kids.getD k cD4))=false:=(Eq.mp (cF7 _) h4);refine rT G _ h4 (wp_seq (l6 G f8 [] fun G=>b6 (wp_ret (A5 (l7 (l7 (A5 (l7 ?_))))))));exact I8 false G [0,1] (sx4 ab)
    refine wp_seq (l6 G f8 [] fun G=>b6 (wp_ret (l7 ?_)));exact I8 false G [0,1] (sx3 al)
   have q1:=bne_iff_ne.1 h1;refine l6 G (H2 (fc h0 (fc h1 fz)) (us [(6,10,0),(1011,1011,0),(13,19,1),(1020,1020,1)])) [(26,bA true)] fun G=>b6 (rT G true aj (wp_seq (l6 G f8 [] fun G=>b6 (wp_ret (l7 ?_)))));exact I8 false G [0,1] (sx2 al)
  have q0:=bne_iff_ne.1 h0;refine l6 G (H2 (fc h0 (fc (b:=true) rfl fz)) (us [(6,10,0),(1011,1011,0),(13,19,1),(1020,1020,1)])) [(26,bA true)] fun G=>b6 (rT G true aj (wp_seq (l6 G f8 [] fun G=>b6 (wp_ret (l7 ?_)))));exact I8 false G [0,1] (sx1 al)
theorem ai1(x:c7):∀(y:c7),j8.ok Tryz.prog (sxC x y):=
 c7.ind (P:=fun x=>∀(y:c7),j8.ok Tryz.prog (sxC x y)) (fun k n ks ih y=>bZ1 ⟨k,n,ks⟩ y fun u hu=>ih u hu) x
theorem an0(xs ys:List Int):j8.ok Tryz.prog (P1 172 [.ref 0,.ref 1] [dI xs,dI ys] (bA (decide (xs=ys)))):=by
  refine D9 26 Tryz.func172 [dI xs,dI ys] [(0,.ref 0),(1,.ref 1)] fun G=>?_;have hl:xs.length<=9223372036854775807:=G.len 0 (d:=.ints xs) aj;refine wp_seq (C6 G f8 [(0,.ref 0),(1,.ref 1),(4,bA false)] fun G=>b6 (wp_seq (wp_seq (l6 G f8 [(10,bA ((xs.length:Int) !=(ys.length:Int)))] fun G=>b6 (rcN G (fun h0 q0=>?_) fun h0 q0=>?_)))))
  ·
   refine wp_skip (b6 (wp_seq (wp_seq (C6 G f8 [(0,.ref 0),(1,.ref 1),(4,bA false),(5,iA 0)] fun G=>b6 (wp_block ?_)))));refine t9 (κ:=Nat) (fun k=>k<=xs.length/\xs.take k=ys.take k) (fun k=>xs.length-k) (fun k=>[dI xs,dI ys]) (fun k=>[(0,.ref 0),(1,.ref 1),(4,bA false),(5,iA k)]) 0 (by simp[h0]) (x7.at G _ _) ?_;clear G;intro k ρ a w hp G;refine wp_seq (wp_seq (l6 G f8 [(14,bA (decide ((k:Int)<xs.length)))] fun G=>b6 (rcD G (fun h1 q1=>?_) fun h1 q1=>?_)))
   · refine wp_exit (t4 (t4 (t3 (b6 (wp_seq (l6 G f8 [(4,bA true)] fun G=>b6 (wp_ret ?_)))))));exact I8 true G [0,1] (decide_eq_true (aK8 hp.2 al al))
   refine wp_skip (b6 (wp_seq (wp_block (wp_seq (aj3 G f8 [0,0,3,7,0,0,48,112,255] [(25,bA (xs.getD k 0 !=ys.getD k 0))] (iX k k xs.length (iX k k ys.length [])) (iK al (iK al cF1)) fun G=>b6 (rcN G (fun h2 q2=>?_) fun h2 q2=>?_))))))
   · refine wp_skip (m8 (b6 (H0 G f8 [(5,iA ((k:Int)+1))] [wO ((k:Int)+1)] (o1 al) fun G=>b6 ?_)));exact P7 G (k+1) (⟨al,aA2 hp.2 al al al⟩) al [0,1]
   refine wp_seq (l6 G f8 [] fun G=>b6 (wp_ret (A5 (l7 (l7 (A5 (l7 ?_)))))));exact I8 false G [0,1] (by exact decide_eq_false fun e=>by subst e;omega)
  refine wp_seq (l6 G f8 [] fun G=>b6 (wp_ret (l7 ?_)));exact I8 false G [0,1] (by exact decide_eq_false fun e=>by subst e;omega)
theorem aL2{s t:c6}(h:¬s=t):S7 s t=false:=by
 cases e:S7 s t
 ·rfl
 exact absurd ((al1 s t).1 e) h
theorem b72{l m:List c6}(h:¬l=m):B7 l m=false:=by
 cases e:B7 l m
 ·rfl
 exact absurd ((M5 l m).1 e) h
section
variable{s t:c6}{l m:List c6}{k:Nat}
theorem sr1(h:¬s.kind=t.kind):S7 s t=false:=aL2 fun e=>h (by rw[e])
theorem sr2(h:¬s.target=t.target):S7 s t=false:=aL2 fun e=>h (by rw[e])
theorem sr3(h:¬s.count=t.count):S7 s t=false:=aL2 fun e=>h (by rw[e])
theorem sr4(h:N6 s.index t.index=false):S7 s t=false:=aL2 fun e=>by subst e;rw[(O4 _ _).2 rfl]at h;cases h
theorem sr5(h:N6 s.value t.value=false):S7 s t=false:=aL2 fun e=>by subst e;rw[(O4 _ _).2 rfl]at h;cases h
theorem sr6(h:B7 s.body t.body=false):S7 s t=false:=aL2 fun e=>by subst e;rw[(M5 _ _).2 rfl]at h;cases h
theorem sr7(h:B7 s.els t.els=false):S7 s t=false:=aL2 fun e=>by subst e;rw[(M5 _ _).2 rfl]at h;cases h
theorem sr8(h1:s.kind=t.kind)(h2:s.target=t.target)(h3:s.count=t.count)(h4:N6 s.index t.index=true)(h5:N6 s.value t.value=true)(h6:B7 s.body t.body=true):S7 s t=B7 s.els t.els:=by
 cases e:B7 s.els t.els
 ·exact sr7 e
 refine(al1 _ _).2 ?_
 rw[<-c6.eta s, <-c6.eta t,h1,h2,h3,(O4 _ _).1 h4,(O4 _ _).1 h5,(M5 _ _).1 h6,(M5 _ _).1 e]
theorem sb1(h:¬(l.length:Int)=m.length):B7 l m=false:=b72 fun e=>h (by rw[e])
theorem sb2(h:S7 (l.getD k cD4) (m.getD k cD4)=false):B7 l m=false:=b72 fun e=>by
 subst e
 rw[(al1 _ _).2 rfl]at h;cases h
theorem sb3(h3:(l.length:Int)=m.length)(h:l.take k=m.take k)(hk:l.length<=k):B7 l m=true:=(M5 _ _).2 (aK8 h hk h3)
end
abbrev sbC(l m:List c6):j8:=P1 173 [.ref 0,.ref 1] [dT l,dT m] (bA (B7 l m))
abbrev ssC(s t:c6):j8:=P1 190 [sA s 0,sA t 4] (sS s++sS t) (bA (S7 s t))
abbrev au7(s:c6)(t:c6)(r0:List It):List It:=dE s.index.kids::dE s.value.kids::dT s.body::dT s.els::dE t.index.kids::dE t.value.kids::dT t.body::dT t.els::r0
theorem bZ2(s t:c6)(ih1:∀(m:List c6),j8.ok Tryz.prog (sbC s.body m))(ih2:∀(m:List c6),j8.ok Tryz.prog (sbC s.els m)):j8.ok Tryz.prog (ssC s t):=by
  refine D9 52 Tryz.func190 (au7 s t []) [(0,sA s 0),(1,sA t 4)] fun G=>?_;refine wp_seq (j7 G f8 [0,1,2,3,4,5,6,7,8,16] (au7 s t [.box (sL s 0),.box (sL t 4)]) [(2,.ptr 8 0),(3,.ptr 9 0),(4,bA false)] fun G=>b6 (wp_seq ?_));cases h0:(s.kind==t.kind)
  · have q0:=ne_of_beq_false h0;refine j7 G (H2 (fc h0 (fc (b:=false) rfl fz)) (us [(6,10,0),(1011,1011,0),(13,17,1),(1018,1018,1),(20,24,1),(1025,1025,1),(27,31,1),(1032,1032,1),(34,38,1),(1039,1039,1),(41,45,1),(1046,1046,1)])) (rg 8) (au7 s t []) [(4,bA false)] fun G=>b6 (wp_ret ?_);exact I8 false G (rg 8) (sr1 al)
  have q0:=eq_of_beq h0;cases h1:(s.target==t.target)
  · have q1:=ne_of_beq_false h1;refine j7 G (H2 (fc h0 (fc h1 (fc (b:=false) rfl fz))) (us [(6,10,0),(1011,1011,0),(13,17,1),(1018,1018,1),(20,24,2),(1025,1025,2),(27,31,2),(1032,1032,2),(34,38,2),(1039,1039,2),(41,45,2),(1046,1046,2)])) (rg 8) (au7 s t []) [(4,bA false)] fun G=>b6 (wp_ret ?_);exact I8 false G (rg 8) (sr2 al)
  have q1:=eq_of_beq h1;cases h2:(s.count==t.count)
  · have q2:=ne_of_beq_false h2;refine j7 G (H2 (fc h0 (fc h1 (fc h2 (fc (b:=false) rfl fz)))) (us [(6,10,0),(1011,1011,0),(13,17,1),(1018,1018,1),(20,24,2),(1025,1025,2),(27,31,3),(1032,1032,3),(34,38,3),(1039,1039,3),(41,45,3),(1046,1046,3)])) (rg 8) (au7 s t []) [(4,bA false)] fun G=>b6 (wp_ret ?_);exact I8 false G (rg 8) (sr3 al)
  have q2:=eq_of_beq h2;cases h3:(N6 s.index t.index)
  · refine j7 G (I7 (y7 24 [0,4] (ai1 s.index t.index) I6) (fc h0 (fc h1 (fc h2 (fc h3 (fc (b:=false) rfl fz))))) (us [(6,10,0),(1011,1011,0),(13,17,1),(1018,1018,1),(20,24,2),(1025,1025,2),(27,31,3),(1032,1032,3),(34,38,4),(1039,1039,4),(41,45,4),(1046,1046,4)])) (rg 8) (au7 s t []) [(4,bA false)] fun G=>b6 (wp_ret ?_);exact I8 false G (rg 8) (sr4 ab)
  cases h4:(N6 s.value t.value)
  · refine j7 G (I7 (y7 24 [0,4] (ai1 s.index t.index) (y7 31 [1,5] (ai1 s.value t.value) I6)) (fc h0 (fc h1 (fc h2 (fc h3 (fc h4 (fc (b:=false) rfl fz)))))) (us [(6,10,0),(1011,1011,0),(13,17,1),(1018,1018,1),(20,24,2),(1025,1025,2),(27,31,3),(1032,1032,3),(34,38,4),(1039,1039,4),(41,45,5),(1046,1046,5)])) (rg 8) (au7 s t []) [(4,bA false)] fun G=>b6 (wp_ret ?_);exact I8 false G (rg 8) (sr5 ab)
  cases h5:(B7 s.body t.body)
  · refine j7 G (I7 (y7 24 [0,4] (ai1 s.index t.index) (y7 31 [1,5] (ai1 s.value t.value) (y7 38 [2,6] (ih1 t.body) I6))) (fc h0 (fc h1 (fc h2 (fc h3 (fc h4 (fc h5 fz)))))) (us [(6,10,0),(1011,1011,0),(13,17,1),(1018,1018,1),(20,24,2),(1025,1025,2),(27,31,3),(1032,1032,3),(34,38,4),(1039,1039,4),(41,45,5),(1046,1046,5)])) (rg 8) (au7 s t []) [(4,bA false)] fun G=>b6 (wp_ret ?_);exact I8 false G (rg 8) (sr6 ab)
  refine j7 G (I7 (y7 24 [0,4] (ai1 s.index t.index) (y7 31 [1,5] (ai1 s.value t.value) (y7 38 [2,6] (ih1 t.body) (y7 45 [3,7] (ih2 t.els) I6)))) (fc h0 (fc h1 (fc h2 (fc h3 (fc h4 (fc h5 fz)))))) (us [(6,10,0),(1011,1011,0),(13,17,1),(1018,1018,1),(20,24,2),(1025,1025,2),(27,31,3),(1032,1032,3),(34,38,4),(1039,1039,4),(41,45,5),(1046,1046,5)])) (rg 8) (au7 s t []) [(4,bA (B7 s.els t.els))] fun G=>b6 (wp_ret ?_);exact I8 (B7 s.els t.els) G (rg 8) (sr8 al al al ab ab ab)
theorem a20(l m:List c6)(ih:∀(s:c6),s∈l->∀(t:c6),j8.ok Tryz.prog (ssC s t)):j8.ok Tryz.prog (sbC l m):=by
  refine D9 27 Tryz.func173 [dT l,dT m] [(0,.ref 0),(1,.ref 1)] fun G=>?_;have hl:l.length<=9223372036854775807:=G.len 0 (d:=.stmts l) aj;refine wp_seq (C6 G f8 [(0,.ref 0),(1,.ref 1),(4,bA false)] fun G=>b6 (wp_seq (wp_seq (l6 G f8 [(10,bA ((l.length:Int) !=(m.length:Int)))] fun G=>b6 (rcN G (fun h0 q0=>?_) fun h0 q0=>?_)))))
  ·
   refine wp_skip (b6 (wp_seq (wp_seq (C6 G f8 [(0,.ref 0),(1,.ref 1),(4,bA false),(5,iA 0)] fun G=>b6 (wp_block ?_)))));refine t9 (κ:=Nat) (fun k=>k<=l.length/\l.take k=m.take k) (fun k=>l.length-k) (fun k=>[dT l,dT m]) (fun k=>[(0,.ref 0),(1,.ref 1),(4,bA false),(5,iA k)]) 0 (by simp[h0]) (x7.at G _ _) ?_;clear G;intro k ρ a w hp G;refine wp_seq (wp_seq (l6 G f8 [(14,bA (decide ((k:Int)<l.length)))] fun G=>b6 (rcD G (fun h1 q1=>?_) fun h1 q1=>?_)))
   · refine wp_exit (t4 (t4 (t3 (b6 (wp_seq (l6 G f8 [(4,bA true)] fun G=>b6 (wp_ret ?_)))))));exact I8 true G [0,1] (sb3 al hp.2 al)
   refine wp_skip (b6 (wp_seq (wp_block (wp_seq (aj3 G (x6 8 [26,27,28,29,58,59,60,61] (ih (l.getD k cD4) (af9 al) (m.getD k cD4))) [0,0,3,7,0,0,48,112,255,511] [(26,.v (.bool !S7 (l.getD k cD4) (m.getD k cD4)))] (iX k k l.length (iX k k m.length [])) (iK al (iK al cF1)) fun G=>b6 ?_)))));cases h2:(!S7 (l.getD k cD4) (m.getD k cD4))
   · have q2:(S7 (l.getD k cD4) (m.getD k cD4))=true:=(Eq.mp (cG1 _) h2);refine rF G _ h2 (wp_skip (m8 (b6 (H0 G f8 [(5,iA ((k:Int)+1))] [wO ((k:Int)+1)] (o1 al) fun G=>b6 ?_))));exact P7 G (k+1) (⟨al,aA2 hp.2 al al ((al1 _ _).1 ab)⟩) al [0,1]
   have q2:(S7 (l.getD k cD4) (m.getD k cD4))=false:=(Eq.mp (cF7 _) h2);refine rT G _ h2 (wp_seq (l6 G f8 [] fun G=>b6 (wp_ret (A5 (l7 (l7 (A5 (l7 ?_))))))));exact I8 false G [0,1] (sb2 ab)
  refine wp_seq (l6 G f8 [] fun G=>b6 (wp_ret (l7 ?_)));exact I8 false G [0,1] (sb1 al)
theorem cb0(s:c6):∀(t:c6),j8.ok Tryz.prog (ssC s t):=
 c6.ind (P:=fun s=>∀(t:c6),j8.ok Tryz.prog (ssC s t)) (fun k t i v c b e h1 h2 u=>bZ2 ⟨k,t,i,v,c,b,e⟩ u (fun m=>a20 b m fun s hs=>h1 s hs) fun m=>a20 e m fun s hs=>h2 s hs) s
theorem b44(l m:List c6):j8.ok Tryz.prog (sbC l m):=a20 l m fun s _=>cb0 s
theorem aS9(xs xt:List Int)(l:List c6)(ys yt:List Int)(m:List c6):j8.ok Tryz.prog (P1 128 [pA 0,pA 3] [dI xs,dI xt,dT l,dI ys,dI yt,dT m] (bA (decide (xs=ys)&&(decide (xt=yt)&&B7 l m)))):=by
  refine D9 24 Tryz.func128 [dI xs,dI xt,dT l,dI ys,dI yt,dT m] [(0,pA 0),(1,pA 3)] fun G=>?_;refine wp_seq (j7 G f8 [0,1,2,3,4,5,6,14] [dI xs,dI xt,dT l,dI ys,dI yt,dT m,.box (pL 0),.box (pL 3)] [(2,.ptr 6 0),(3,.ptr 7 0),(4,bA false)] fun G=>b6 (wp_seq ?_));cases h0:(decide (xs=ys))
  · have q0:=dFf h0;refine j7 G (I7 (y7 4 [0,3] (an0 xs ys) I6) (fc h0 (fc (b:=false) rfl fz)) (us [(6,10,0),(1011,1011,0),(13,17,1),(1018,1018,1)])) (rg 6) [dI xs,dI xt,dT l,dI ys,dI yt,dT m] [(4,bA false)] fun G=>b6 (wp_ret ?_);exact G7 G (rg 6)
  have q0:=dTt h0;cases h1:(decide (xt=yt))
  · have q1:=dFf h1;refine j7 G (I7 (y7 4 [0,3] (an0 xs ys) (y7 10 [1,4] (an0 xt yt) I6)) (fc h0 (fc h1 fz)) (us [(6,10,0),(1011,1011,0),(13,17,1),(1018,1018,1)])) (rg 6) [dI xs,dI xt,dT l,dI ys,dI yt,dT m] [(4,bA false)] fun G=>b6 (wp_ret ?_);exact G7 G (rg 6)
  have q1:=dTt h1;refine j7 G (I7 (y7 4 [0,3] (an0 xs ys) (y7 10 [1,4] (an0 xt yt) (y7 17 [2,5] (b44 l m) I6))) (fc h0 (fc h1 fz)) (us [(6,10,0),(1011,1011,0),(13,17,1),(1018,1018,1)])) (rg 6) [dI xs,dI xt,dT l,dI ys,dI yt,dT m] [(4,bA (B7 l m))] fun G=>b6 (wp_ret ?_);exact G7 G (rg 6)
theorem ac4(vs ars:List Int)(b:List c6)(e:c7)(he:i7 vs.length ars.length 5 e=true):j8.ok Tryz.prog (P1 139 [pA 0,eA e 3] ([dI vs,dI ars,dT b]++eS e) (iA (j5 vs ars 5 e))):=P5 ⟨vs,ars,b⟩ e he
theorem ap6(vs ars:List Int)(b:List c6)(hb:vs.length+ars.length+j6 b<=1048576):j8.ok Tryz.prog ⟨90,[pA 0],[dI vs,dI ars,dT b],[dI vs,dI ars,dT b,.row 3 (.ints vs),.row 3 (.ints ars),.tree (.stmts b)],oA 3⟩:=bV2 ⟨vs,ars,b⟩ hb
theorem aa5(vs ars:List Int)(b:List c6)(hb:j6 b<=1048576):j8.ok Tryz.prog (P1 89 [pA 0] [dI vs,dI ars,dT b] (.tup [iA (X9 ⟨vs,ars,b⟩ false).1,iA (X9 ⟨vs,ars,b⟩ false).2])):=bh6 ⟨vs,ars,b⟩ hb
section
variable{vs ars:List Int}{cx:Int}{s:c6}{d:Nat}{b:Bool}
theorem on1(k:s.kind=1):N2 (vs,ars) s cx=(vs.set s.target.toNat (m7 (m7 (vs.getD s.target.toNat 0) (j5 vs ars 5 s.value)) cx),ars):=if_pos k
theorem on2(k:s.kind=2):N2 (vs,ars) s cx=(vs,ars.set s.target.toNat (m7 (m7 (m7 (ars.getD s.target.toNat 0) (j5 vs ars 5 s.value)) (j5 vs ars 5 s.index)) cx)):=by unfold N2;rw[if_neg al,if_pos k]
theorem on0{q:P2}(k1:¬s.kind=1)(k2:¬s.kind=2):N2 q s cx=q:=by unfold N2;rw[if_neg k1,if_neg k2]
theorem up1{q:P2}(h1:s.body=[])(h2:s.els=[]):upS b (d+1) q cx s=N2 q s cx:=by rw[ak6,h1,h2];rfl
theorem up3{q:P2}(k:s.kind=3):upS true (d+1) q cx s=C8 true d (C8 true d q (m7 cx (j5 q.1 q.2 5 s.value)) s.body) (m7 cx (j5 (C8 true d q (m7 cx (j5 q.1 q.2 5 s.value)) s.body).1 (C8 true d q (m7 cx (j5 q.1 q.2 5 s.value)) s.body).2 5 s.value)) s.els:=by
 rw[ak6,on0 al al]
 unfold aj4
 simp only[if_pos k,if_true]
theorem up4{q:P2}(k:s.kind=4)(h2:s.els=[]):upS b (d+1) q cx s=C8 b d q cx s.body:=by
 rw[ak6,on0 al al,h2]
 unfold aj4
 simp only[if_neg (show ¬s.kind=3 by omega)]
 rfl
theorem ak7{q:P2}{ss:List c6}{k:Nat}(hk:k<ss.length):C8 b d q cx (ss.take (k+1))=upS b d (C8 b d q cx (ss.take k)) cx (ss.getD k cD4):=by
 unfold C8
 rw[o0 _ _ hk,List.foldl_append,m6 hk];rfl
theorem aH0{nv na d k:Nat}{ss:List c6}(hs:ss.all (j9 nv na (d+1))=true)(hk:k<ss.length)(k3:¬(ss.getD k cD4).kind=3):(ss.getD k cD4).els=[]/\(¬(ss.getD k cD4).kind=4->(ss.getD k cD4).body=[]):=by
 have h0:=cE2.1 hs _ (cF3 hk)
 rw[<-m6 (d:=cD4) hk]at h0
 rw[j9,cD5]at h0
 have h1:=h0.1
 unfold v5 at h1
 by_cases k4:(ss.getD k cD4).kind=4
 ·rw[if_pos (.inr k4),if_pos k4]at h1
  simp only[cD5,decide_eq_true_eq]at h1
  exact⟨cF4 h1.2.1.1.1.1,fun h=>absurd k4 h⟩
 rw[if_neg al]at h1
 simp only[cD5,decide_eq_true_eq]at h1
 exact⟨cF4 h1.1.1.2,fun _=>cF4 h1.1.1.1⟩
section
variable{nv na d k:Nat}{ss:List c6}{q:P2}{cx:Int}
theorem rn1(hs:ss.all (j9 nv na (d+1))=true)(hk:k<ss.length)(k1:(ss.getD k cD4).kind=1):C8 true (d+1) q cx (ss.take (k+1))=((C8 true (d+1) q cx (ss.take k)).1.set (ss.getD k cD4).target.toNat (m7 (m7 ((C8 true (d+1) q cx (ss.take k)).1.getD (ss.getD k cD4).target.toNat 0) (j5 (C8 true (d+1) q cx (ss.take k)).1 (C8 true (d+1) q cx (ss.take k)).2 5 (ss.getD k cD4).value)) cx),(C8 true (d+1) q cx (ss.take k)).2):=by
 have h1:=aH0 hs hk al
 rw[ak7 hk,up1 (h1.2 al) h1.1]
 exact on1 k1
theorem rn2(hs:ss.all (j9 nv na (d+1))=true)(hk:k<ss.length)(k2:(ss.getD k cD4).kind=2):C8 true (d+1) q cx (ss.take (k+1))=((C8 true (d+1) q cx (ss.take k)).1,(C8 true (d+1) q cx (ss.take k)).2.set (ss.getD k cD4).target.toNat (m7 (m7 (m7 ((C8 true (d+1) q cx (ss.take k)).2.getD (ss.getD k cD4).target.toNat 0) (j5 (C8 true (d+1) q cx (ss.take k)).1 (C8 true (d+1) q cx (ss.take k)).2 5 (ss.getD k cD4).value)) (j5 (C8 true (d+1) q cx (ss.take k)).1 (C8 true (d+1) q cx (ss.take k)).2 5 (ss.getD k cD4).index)) cx)):=by
 have h1:=aH0 hs hk al
 rw[ak7 hk,up1 (h1.2 al) h1.1]
 exact on2 k2
theorem rn3(hk:k<ss.length)(k3:(ss.getD k cD4).kind=3):C8 true (d+1) q cx (ss.take (k+1))=C8 true d (C8 true d (C8 true (d+1) q cx (ss.take k)) (m7 cx (j5 (C8 true (d+1) q cx (ss.take k)).1 (C8 true (d+1) q cx (ss.take k)).2 5 (ss.getD k cD4).value)) (ss.getD k cD4).body) (m7 cx (j5 (C8 true d (C8 true (d+1) q cx (ss.take k)) (m7 cx (j5 (C8 true (d+1) q cx (ss.take k)).1 (C8 true (d+1) q cx (ss.take k)).2 5 (ss.getD k cD4).value)) (ss.getD k cD4).body).1 (C8 true d (C8 true (d+1) q cx (ss.take k)) (m7 cx (j5 (C8 true (d+1) q cx (ss.take k)).1 (C8 true (d+1) q cx (ss.take k)).2 5 (ss.getD k cD4).value)) (ss.getD k cD4).body).2 5 (ss.getD k cD4).value)) (ss.getD k cD4).els:=by
 rw[ak7 hk,up3 k3]
theorem rn4(hs:ss.all (j9 nv na (d+1))=true)(hk:k<ss.length)(k4:(ss.getD k cD4).kind=4):C8 true (d+1) q cx (ss.take (k+1))=C8 true d (C8 true (d+1) q cx (ss.take k)) cx (ss.getD k cD4).body:=by
 rw[ak7 hk,up4 k4 (aH0 hs hk al).1]
theorem rn0(hs:ss.all (j9 nv na (d+1))=true)(hk:k<ss.length)(k1:¬(ss.getD k cD4).kind=1)(k2:¬(ss.getD k cD4).kind=2)(k3:¬(ss.getD k cD4).kind=3)(k4:¬(ss.getD k cD4).kind=4):C8 true (d+1) q cx (ss.take (k+1))=C8 true (d+1) q cx (ss.take k):=by
 have h1:=aH0 hs hk k3
 rw[ak7 hk,up1 (h1.2 k4) h1.1,on0 k1 k2]
theorem bM1(hk:ss.length<=k):C8 true (d+1) q cx ss=C8 true (d+1) q cx (ss.take k):=by rw[cF0 hk]
theorem a15{q r:P2}{s:c6}(h:shP q r)(hv:q.1.length=nv)(ha:q.2.length=na)(hh:G3 nv na s=true)(k:¬s.kind=4):i7 r.1.length r.2.length 5 s.value=true:=by rw[h.1,h.2,hv,ha];exact C3 hh k
theorem ca5{q r:P2}{s:c6}(h:shP q r)(hv:q.1.length=nv)(ha:q.2.length=na)(hh:G3 nv na s=true)(k:s.kind=2):i7 r.1.length r.2.length 5 s.index=true:=by rw[h.1,h.2,hv,ha];exact aP3 hh k
end
end
abbrev raC(vs ars:List Int)(d:Nat)(bd ss:List c6)(cx:Int):j8:=⟨127,[pA 0,.ref 3,iA cx],[.row 3 (.ints vs),.row 3 (.ints ars),dT bd,dT ss],[.row 3 (.ints (C8 true d (vs,ars) cx ss).1),.row 3 (.ints (C8 true d (vs,ars) cx ss).2),dT bd,dT ss],.tup []⟩
abbrev ak1(d:Nat)(ss:List c6)(vs:List Int)(ars:List Int)(cx:Int)(k:Nat):=C8 true d (C8 true (d+1) (vs,ars) cx (cE3 k ss)) (m7 cx (j5 (C8 true (d+1) (vs,ars) cx (cE3 k ss)).fst (C8 true (d+1) (vs,ars) cx (cE3 k ss)).snd 5 (ss.getD k cD4).value)) (ss.getD k cD4).body
abbrev z3(d:Nat)(ss:List c6)(vs:List Int)(ars:List Int)(cx:Int)(k:Nat):=C8 true (d+1) (vs,ars) cx (cE3 k ss)
abbrev bs3(d:Nat)(ss:List c6)(vs:List Int)(ars:List Int)(cx:Int)(k:Nat):=C8 true d (ak1 d ss vs ars cx k) (m7 cx (j5 (ak1 d ss vs ars cx k).fst (ak1 d ss vs ars cx k).snd 5 (ss.getD k cD4).value)) (ss.getD k cD4).els
abbrev aI6(cx:Int)(k:Nat)(r0:List (Nat×AV)):List (Nat×AV):=(1,.ref 3)::(2,iA cx)::(3,.ptr 4 0)::(6,iA (k:Int))::r0
theorem aV8(nv na d:Nat)(bd ss:List c6)(ih:∀(vs ars:List Int) (tt:List c6) (cx:Int),0<ss.length->vs.length=nv->ars.length=na->tt.all (j9 nv na d)=true->j8.ok Tryz.prog (raC vs ars d bd tt cx))
    (vs ars:List Int) (cx:Int) (hv:vs.length=nv) (ha:ars.length=na) (hs:ss.all (j9 nv na (d+1))=true):j8.ok Tryz.prog (raC vs ars (d+1) bd ss cx):=by
  refine D9 94 Tryz.func127 [.row 3 (D.ints vs),.row 3 (D.ints ars),dT bd,dT ss] [(0,pA 0),(1,.ref 3),(2,iA cx)] fun G=>?_;have hlen:ss.length<=9223372036854775807:=G.len 3 (d:=.stmts ss) aj;refine wp_seq (j7 G f8 (rg 5) [.row 3 (D.ints vs),.row 3 (D.ints ars),dT bd,dT ss,.box (pL 0)] [(1,.ref 3),(2,iA cx),(3,.ptr 4 0)] fun G=>b6 (wp_seq (C6 G f8 [(1,.ref 3),(2,iA cx),(3,.ptr 4 0),(6,iA 0)] fun G=>b6 (wp_block ?_))));refine t9 (κ:=Nat) (fun k=>k<=ss.length) (fun k=>ss.length-k) (fun k=>[.row 3 (.ints (C8 true (d+1) (vs,ars) cx (ss.take k)).1),.row 3 (.ints (C8 true (d+1) (vs,ars) cx (ss.take k)).2),dT bd,dT ss,.box (pL 0)]) (fun k=>[(1,.ref 3),(2,iA cx),(3,.ptr 4 0),(6,iA k)]) 0 al (x7.at G _ _) ?_;clear G;intro k ρ a w hp G;replace G:=x7.at G [.row 3 (D.ints (z3 d ss vs ars cx k).fst),.row 3 (D.ints (z3 d ss vs ars cx k).snd),dT bd,dT ss,.box (pL 0)] (aI6 cx k []);have hsh:shP (vs,ars) (C8 true (d+1) (vs,ars) cx (ss.take k)):=as5;refine wp_seq (wp_seq (l6 G f8 [(11,bA (decide ((k:Int)<ss.length)))] fun G=>b6 (rcD G (fun h0 q0=>?_) fun h0 q0=>?_)))
  · refine wp_exit (t4 (t4 (t3 ?_)));exact cn8 G (rg 4) (by show _=mR (rg 4) [.row 3 (D.ints (C8 true (d+1) (vs,ars) cx ss).fst),.row 3 (D.ints (C8 true (d+1) (vs,ars) cx ss).snd),dT bd,dT ss];have e1:((C8 true (d+1) (vs,ars) cx ss).fst:List Int)=((z3 d ss vs ars cx k).fst):=(congrArg Prod.fst (bM1 al));have e2:((C8 true (d+1) (vs,ars) cx ss).snd:List Int)=((z3 d ss vs ars cx k).snd):=(congrArg Prod.snd (bM1 al));(first|rw[e1,e2]|simp only[e1,e2])<;>rfl)
  refine wp_skip (b6 (wp_seq (wp_block (wp_seq (R9 G f8 [0,1,2,3,4,29,30,31,32,37] [.row 3 (D.ints (z3 d ss vs ars cx k).fst),.row 3 (D.ints (z3 d ss vs ars cx k).snd),dT bd,dT ss,.box (pL 0),dE (ss.getD k cD4).index.kids,dE (ss.getD k cD4).value.kids,dT (ss.getD k cD4).body,dT (ss.getD k cD4).els,.box (sL (ss.getD k cD4) 5)] (aI6 cx k [(7,.ptr 9 0)]) (iX k k ss.length []) (iK al cF1) fun G=>b6 (wp_seq (l6 G f8 [(19,iA (ss.getD k cD4).kind)] fun G=>b6 (wp_block (wp_seq (l6 G f8 [(20,bA ((ss.getD k cD4).kind==1))] fun G=>b6 (V3 G (fun h1 q1=>?_) fun h1 q1=>?_)))))))))))
  ·
   refine wp_seq (l6 G f8 [(40,bA ((ss.getD k cD4).kind==2))] fun G=>b6 (V3 G (fun h2 q2=>?_) fun h2 q2=>?_))
   ·
    refine wp_seq (l6 G f8 [(65,bA ((ss.getD k cD4).kind==3))] fun G=>b6 (V3 G (fun h3 q3=>?_) fun h3 q3=>?_))
    ·
     refine wp_seq (l6 G f8 [(87,bA ((ss.getD k cD4).kind==4))] fun G=>b6 (V3 G (fun h4 q4=>?_) fun h4 q4=>?_))
     · refine wp_skip (m8 (m8 (b6 (R9 G f8 (rg 5) [.row 3 (D.ints (z3 d ss vs ars cx k).fst),.row 3 (D.ints (z3 d ss vs ars cx k).snd),dT bd,dT ss,.box (pL 0)] [(1,.ref 3),(2,iA cx),(3,.ptr 4 0),(6,iA ((k:Int)+1))] [wO ((k:Int)+1)] (o1 al) fun G=>b6 ?_))));exact P7 G (k+1) al al (rg 5) (by have e1:((C8 true (d+1) (vs,ars) cx (cE3 (k+1) ss)).fst:List Int)=((z3 d ss vs ars cx k).fst):=(congrArg Prod.fst (rn0 hs al al al al al));have e2:((C8 true (d+1) (vs,ars) cx (cE3 (k+1) ss)).snd:List Int)=((z3 d ss vs ars cx k).snd):=(congrArg Prod.snd (rn0 hs al al al al al));(first|rw[e1,e2]|simp only[e1,e2])<;>rfl)
     refine j7 G (x6 4 [0,1,2,7] (ih ((z3 d ss vs ars cx k).fst) ((z3 d ss vs ars cx k).snd) ((ss.getD k cD4).body) cx al (hsh.1.trans hv) (hsh.2.trans ha) ((U6 hs al).2.1))) (rg 5) [.row 3 (D.ints (C8 true d (z3 d ss vs ars cx k) cx (ss.getD k cD4).body).fst),.row 3 (D.ints (C8 true d (z3 d ss vs ars cx k) cx (ss.getD k cD4).body).snd),dT bd,dT ss,.box (pL 0)] (aI6 cx k []) fun G=>m8 (m8 (b6 (H0 G f8 [(6,iA ((k:Int)+1))] [wO ((k:Int)+1)] (o1 al) fun G=>b6 ?_)));exact P7 G (k+1) al al (rg 5) (by have e1:((C8 true (d+1) (vs,ars) cx (cE3 (k+1) ss)).fst:List Int)=((C8 true d (z3 d ss vs ars cx k) cx (ss.getD k cD4).body).fst):=(congrArg Prod.fst (rn4 hs al al));have e2:((C8 true (d+1) (vs,ars) cx (cE3 (k+1) ss)).snd:List Int)=((C8 true d (z3 d ss vs ars cx k) cx (ss.getD k cD4).body).snd):=(congrArg Prod.snd (rn4 hs al al));(first|rw[e1,e2]|simp only[e1,e2])<;>rfl)
    refine wp_seq (af5 G (I7 (y7 7 [0,1,2,6] (j8.lend (ac4 ((z3 d ss vs ars cx k).fst) ((z3 d ss vs ars cx k).snd) bd ((ss.getD k cD4).value) (a15 hsh hv ha (U6 hs al).1 al)) [.row 3,.row 3]) (y7 9 [0,1,2,7] (ih ((z3 d ss vs ars cx k).fst) ((z3 d ss vs ars cx k).snd) ((ss.getD k cD4).body) (m7 cx (j5 (z3 d ss vs ars cx k).fst (z3 d ss vs ars cx k).snd 5 (ss.getD k cD4).value)) al (hsh.1.trans hv) (hsh.2.trans ha) ((U6 hs al).2.1)) I6)) fz []) [0,0,2,0,0,0,32,112,248,511] (rg 10) [.row 3 (D.ints (ak1 d ss vs ars cx k).fst),.row 3 (D.ints (ak1 d ss vs ars cx k).snd),dT bd,dT ss,.box (pL 0),dE (ss.getD k cD4).index.kids,dE (ss.getD k cD4).value.kids,dT (ss.getD k cD4).body,dT (ss.getD k cD4).els,.box (sL (ss.getD k cD4) 5)] (aI6 cx k [(7,.ptr 9 0)]) fun G=>b6 (af5 G (I7 (y7 7 [0,1,2,6] (j8.lend (ac4 ((ak1 d ss vs ars cx k).fst) ((ak1 d ss vs ars cx k).snd) bd ((ss.getD k cD4).value) (a15 (hsh.trans as5) hv ha (U6 hs al).1 al)) [.row 3,.row 3]) (y7 9 [0,1,2,8] (ih ((ak1 d ss vs ars cx k).fst) ((ak1 d ss vs ars cx k).snd) ((ss.getD k cD4).els) (m7 cx (j5 (ak1 d ss vs ars cx k).fst (ak1 d ss vs ars cx k).snd 5 (ss.getD k cD4).value)) al ((hsh.trans as5).1.trans hv) ((hsh.trans as5).2.trans ha) ((U6 hs al).2.2)) I6)) fz []) [0,0,2,0,0,0,32,112,248,511] (rg 5) [.row 3 (D.ints (bs3 d ss vs ars cx k).fst),.row 3 (D.ints (bs3 d ss vs ars cx k).snd),dT bd,dT ss,.box (pL 0)] (aI6 cx k []) fun G=>m8 (m8 (b6 (H0 G f8 [(6,iA ((k:Int)+1))] [wO ((k:Int)+1)] (o1 al) fun G=>b6 ?_)))));exact P7 G (k+1) al al (rg 5) (by have e1:((C8 true (d+1) (vs,ars) cx (cE3 (k+1) ss)).fst:List Int)=((bs3 d ss vs ars cx k).fst):=(congrArg Prod.fst (rn3 al al));have e2:((C8 true (d+1) (vs,ars) cx (cE3 (k+1) ss)).snd:List Int)=((bs3 d ss vs ars cx k).snd):=(congrArg Prod.snd (rn3 al al));(first|rw[e1,e2]|simp only[e1,e2])<;>rfl)
   refine K7 G (I7 (y7 13 [0,1,2,6] (j8.lend (ac4 ((z3 d ss vs ars cx k).fst) ((z3 d ss vs ars cx k).snd) bd ((ss.getD k cD4).value) (a15 hsh hv ha (U6 hs al).1 al)) [.row 3,.row 3]) (y7 18 [0,1,2,5] (j8.lend (ac4 ((z3 d ss vs ars cx k).fst) ((z3 d ss vs ars cx k).snd) bd ((ss.getD k cD4).index) (ca5 hsh hv ha (U6 hs al).1 al)) [.row 3,.row 3]) I6)) fz []) [0,1,0,4,0,16,0,64,240,496,0,0,2048,7168,16368,0,0,65536,244736,524272,0,2097136,4194303,8388607] (rg 5) [.row 3 (D.ints (z3 d ss vs ars cx k).fst),.row 3 (D.ints ((z3 d ss vs ars cx k).snd.set (ss.getD k cD4).target.toNat (m7 (m7 (m7 ((z3 d ss vs ars cx k).snd.getD (ss.getD k cD4).target.toNat 0) (j5 (z3 d ss vs ars cx k).fst (z3 d ss vs ars cx k).snd 5 (ss.getD k cD4).value)) (j5 (z3 d ss vs ars cx k).fst (z3 d ss vs ars cx k).snd 5 (ss.getD k cD4).index)) cx))),dT bd,dT ss,.box (pL 0)] (aI6 cx k []) (iX ((ss.getD k cD4).target) ((ss.getD k cD4).target.toNat) ((C8 true (d+(1:Nat)) (vs,ars) cx (cE3 k ss)).snd.length) (iX ((ss.getD k cD4).target) ((ss.getD k cD4).target.toNat) ((C8 true (d+(1:Nat)) (vs,ars) cx (cE3 k ss)).snd.length) [])) (iK (by have h9:=aP4 (U6 (k:=k) hs al).1 al;have h8:=hsh.2.trans ha;omega) (iK (by have h9:=aP4 (U6 (k:=k) hs al).1 al;have h8:=hsh.2.trans ha;omega) cF1)) fun G=>m8 (m8 (b6 (H0 G f8 [(6,iA ((k:Int)+1))] [wO ((k:Int)+1)] (o1 al) fun G=>b6 ?_)));exact P7 G (k+1) al al (rg 5) (by have e2:((C8 true (d+1) (vs,ars) cx (cE3 (k+1) ss)).snd:List Int)=((z3 d ss vs ars cx k).snd.set (ss.getD k cD4).target.toNat (m7 (m7 (m7 ((z3 d ss vs ars cx k).snd.getD (ss.getD k cD4).target.toNat 0) (j5 (z3 d ss vs ars cx k).fst (z3 d ss vs ars cx k).snd 5 (ss.getD k cD4).value)) (j5 (z3 d ss vs ars cx k).fst (z3 d ss vs ars cx k).snd 5 (ss.getD k cD4).index)) cx)):=(congrArg Prod.snd (rn2 hs al al));have h9:=rn2 (q:=(vs,ars)) (cx:=cx) hs (show k<_ by omega) al;rw[e2,h9]<;>rfl)
  refine K7 G (x6 13 [0,1,2,6] (j8.lend (ac4 ((z3 d ss vs ars cx k).fst) ((z3 d ss vs ars cx k).snd) bd ((ss.getD k cD4).value) (a15 hsh hv ha (U6 hs al).1 al)) [.row 3,.row 3])) [0,1,0,4,0,16,0,64,240,496,0,0,2048,7168,16368,0,65520,131071,262143] (rg 5) [.row 3 (D.ints ((z3 d ss vs ars cx k).fst.set (ss.getD k cD4).target.toNat (m7 (m7 ((z3 d ss vs ars cx k).fst.getD (ss.getD k cD4).target.toNat 0) (j5 (z3 d ss vs ars cx k).fst (z3 d ss vs ars cx k).snd 5 (ss.getD k cD4).value)) cx))),.row 3 (D.ints (z3 d ss vs ars cx k).snd),dT bd,dT ss,.box (pL 0)] (aI6 cx k []) (iX ((ss.getD k cD4).target) ((ss.getD k cD4).target.toNat) ((C8 true (d+(1:Nat)) (vs,ars) cx (cE3 k ss)).fst.length) (iX ((ss.getD k cD4).target) ((ss.getD k cD4).target.toNat) ((C8 true (d+(1:Nat)) (vs,ars) cx (cE3 k ss)).fst.length) [])) (iK (by have h9:=aP2 (U6 (k:=k) hs al).1 al;have h8:=hsh.1.trans hv;omega) (iK (by have h9:=aP2 (U6 (k:=k) hs al).1 al;have h8:=hsh.1.trans hv;omega) cF1)) fun G=>m8 (m8 (b6 (H0 G f8 [(6,iA ((k:Int)+1))] [wO ((k:Int)+1)] (o1 al) fun G=>b6 ?_)));exact P7 G (k+1) al al (rg 5) (by have e1:((C8 true (d+1) (vs,ars) cx (cE3 (k+1) ss)).fst:List Int)=((z3 d ss vs ars cx k).fst.set (ss.getD k cD4).target.toNat (m7 (m7 ((z3 d ss vs ars cx k).fst.getD (ss.getD k cD4).target.toNat 0) (j5 (z3 d ss vs ars cx k).fst (z3 d ss vs ars cx k).snd 5 (ss.getD k cD4).value)) cx)):=(congrArg Prod.fst (rn1 hs al al));have h9:=rn1 (q:=(vs,ars)) (cx:=cx) hs (show k<_ by omega) al;rw[e1,h9]<;>rfl)
theorem bp6(nv na:Nat)(bd:List c6):∀(d:Nat) (vs ars:List Int) (ss:List c6) (cx:Int),vs.length=nv->ars.length=na->ss.all (j9 nv na d)=true->j8.ok Tryz.prog (raC vs ars d bd ss cx):=by
 intro d
 induction d with
 | zero =>
  intro vs ars ss cx hv ha hs
  have h0:ss=[]:=by
   cases ss with
   |nil=>rfl
   |cons a r=>simp[j9]at hs
  subst h0
  exact aV8 nv na 0 bd [] (fun _ _ _ _ h=>absurd h an) vs ars cx hv ha rfl
 |succ d ih=>intro vs ars ss cx hv ha hs;exact aV8 nv na d bd ss (fun vs ars tt cx _ h1 h2 h3=>ih vs ars tt cx h1 h2 h3) vs ars cx hv ha hs
theorem bp5(vs ars:List Int)(b:List c6)(hs:b.all (j9 vs.length ars.length 5)=true):j8.ok Tryz.prog ⟨127,[pA 0,.ref 2,iA 0],[.row 3 (.ints vs),.row 3 (.ints ars),dT b],[.row 3 (.ints (C8 true 5 (vs,ars) 0 b).1),.row 3 (.ints (C8 true 5 (vs,ars) 0 b).2),dT b],.tup []⟩:=
 j8.dup (S:=[.row 3 (.ints vs),.row 3 (.ints ars),dT b]) (S':=[.row 3 (.ints (C8 true 5 (vs,ars) 0 b).1),.row 3 (.ints (C8 true 5 (vs,ars) 0 b).2),dT b]) (d:=.stmts b) (i:=2) (bp6 _ _ b 5 vs ars b 0 rfl rfl hs) rfl rfl rfl (fun ρ h=>by simp only[AV.vals,AV.val];rw[show ρ 3=ρ 2 from h]) rfl
def okI(p:i6):Bool:=n9 p&&decide ((X9 ⟨(aB0 p).1,(aB0 p).2,p.body⟩ false).1=0)
def aj5(p:i6):i6:=if okI p=true then⟨(aB0 p).1,(aB0 p).2,p.body⟩else⟨[],[],[]⟩
theorem aM4{p:i6}(h:n9 p=true):p.vars.length+p.arrays.length<=14:=by
 unfold n9 F9 at h
 simp only[cD5,decide_eq_true_eq]at h
 omega
section
variable{p:i6}{q:P2}{b:List c6}{X:P2}
theorem af4(h:(decide (X.1=q.1)&&(decide (X.2=q.2)&&B7 b b))=true):X=q:=by
 simp only[cD5,decide_eq_true_eq]at h
 exact Prod.ext h.1 h.2.1
theorem bk8(h:(decide (X.1=q.1)&&(decide (X.2=q.2)&&B7 b b))=false):¬X=q:=fun e=>by
 subst e
 rw[(M5 b b).2 rfl]at h
 simp at h
theorem bR0{f:Bool}(hp:n9 p=true)(h:aj8 p.body (p.vars,p.arrays) q)(hne:¬C8 f 5 q 0 p.body=q):100-aS1 (C8 f 5 q 0 p.body)<100-aS1 q:=by
 have h1:=ao5 (f:=f) h
 have h2:=bu3 as5 h.2.1 h1.2.1 aK5 hne
 have h3:=a93 h1.2.1
 have h4:=aM4 hp
 rw[h1.1.1,h1.1.2]at h3
 simp only at h3
 omega
theorem b23(hb:p.size<=1048576)(h:aj8 p.body (p.vars,p.arrays) q):q.1.length+q.2.length+j6 p.body<=1048576:=by
 have h1:=h.1.1
 have h2:=h.1.2
 unfold i6.size at hb
 simp only at h1 h2
 omega
theorem bD9(hp:n9 p=true)(h:aj8 p.body (p.vars,p.arrays) q):p.body.all (j9 q.1.length q.2.length 5)=true:=by
 rw[h.1.1,h.1.2];exact(aA8 hp).1
theorem bN9(h:n9 p=false):okI p=false:=by unfold okI;rw[h];rfl
theorem bO0(hp:n9 p=true)(h:aj8 p.body (p.vars,p.arrays) q)(hf:C8 true 5 q 0 p.body=q):okI p=decide ((X9 ⟨q.1,q.2,p.body⟩ false).1=0):=by
 unfold okI;rw[hp,by1 hp (aM4 hp) h hf];rfl
theorem by0(h:okI p=false):aj5 p=⟨[],[],[]⟩:=by unfold aj5;rw[h];rfl
theorem b25(hp:n9 p=true)(h:aj8 p.body (p.vars,p.arrays) q)(hf:C8 true 5 q 0 p.body=q)(hk:okI p=true):aj5 p=⟨q.1,q.2,p.body⟩:=by unfold aj5;rw[hk,by1 hp (aM4 hp) h hf];rfl
theorem cp1(hp:n9 p=true)(h:aj8 p.body (p.vars,p.arrays) q)(hf:C8 true 5 q 0 p.body=q)(hc:(X9 ⟨q.1,q.2,p.body⟩ false).1=0):okI p=true:=by rw[bO0 hp h hf];exact decide_eq_true hc
theorem cp2(hp:n9 p=true)(h:aj8 p.body (p.vars,p.arrays) q)(hf:C8 true 5 q 0 p.body=q)(hc:¬(X9 ⟨q.1,q.2,p.body⟩ false).1=0):okI p=false:=by rw[bO0 hp h hf];exact decide_eq_false hc
end
abbrev aT9(p:i6):List It:=[dI p.vars,dI p.arrays,dT p.body,.row 3 (D.ints (aj5 p).vars),.row 3 (D.ints (aj5 p).arrays),.tree (D.stmts (aj5 p).body)]
abbrev aD0:It:=.box [.v (.slice none 0 0),.v (.slice none 0 0),.v (.slice none 0 0)]
abbrev aJ3:It:=.box [.ref 4,.ref 5,.tref 6]
abbrev au6(p:i6)(q:P2)(r0:List It):List It:=.row 3 (D.ints q.fst)::.row 3 (D.ints q.snd)::.tree (D.stmts p.body)::r0
abbrev aj9(r0:List (Nat×AV)):List (Nat×AV):=(2,.ptr 3 0)::(3,bA false)::(4,.ptr 7 0)::r0
abbrev Y7(p:i6)(r0:List It):List It:=dI p.vars::dI p.arrays::dT p.body::r0
theorem aT0(p:i6)(hb:p.size<=1048576):j8.ok Tryz.prog ⟨87,[pA 0],pS p,pS p++oP (aj5 p),.tup [oA 3,bA (okI p)]⟩:=by
  refine D9 33 Tryz.func87 (Y7 p []) [(0,pA 0)] fun G=>?_
  have hb1:p.vars.length<=1048576/\p.arrays.length<=1048576/\j6 p.body<=1048576:=by unfold i6.size at hb;omega
  refine wp_seq (j7 G f8 [0,1,2,3,11] (Y7 p [.box (pL 0),aD0]) [(1,.ptr 3 0),(2,.ptr 4 0),(3,bA false)] fun G=>b6 (wp_seq (wp_seq (l6 G (x6 1 [0,1,2] (T3 p al)) [(10,.v (.bool !n9 p))] fun G=>b6 ?_))));cases h0:(!n9 p)
  ·
   have q0:(n9 p)=true:=(Eq.mp (cG1 _) h0);refine rF G _ h0 (wp_skip (b6 (wp_seq (j7 G (x6 1 [0,1,2] (ap6 p.vars p.arrays p.body ai)) [0,1,2,4,13,14,15,21] (Y7 p [aD0,.row 3 (D.ints p.vars),.row 3 (D.ints p.arrays),.tree (D.stmts p.body),aJ3]) (aj9 []) fun G=>b6 (wp_seq (wp_block ?_))))));refine t9 (κ:=P2) (fun q=>aj8 p.body (p.vars,p.arrays) q) (fun q=>100-aS1 q) (fun q=>(Y7 p [aD0,.row 3 (.ints q.1),.row 3 (.ints q.2),.tree (D.stmts p.body),aJ3])) (fun q=>(aj9 [])) ((p.vars,p.arrays)) (at7 (a40 ab)) (x7.at G _ _) ?_;clear G;intro q ρ a w hp G;replace G:=x7.at G (Y7 p (aD0::(au6 p q [aJ3]))) (aj9 []);refine wp_block (wp_seq (j7 G (x6 1 [4,5,6] (j8.lend (ap6 q.fst q.snd p.body (b23 hb ab)) [.row 3,.row 3,.tree])) [0,1,2,3,4,5,6,7,16,17,18,24] (Y7 p (aD0::(au6 p q (aJ3::(au6 p q [.box [.ref 8,.ref 9,.tref 10]]))))) (aj9 [(5,.ptr 11 0)]) fun G=>b6 (wp_seq (j7 G (x6 3 [8,9,10] (j8.lend (bp5 q.fst q.snd p.body (bD9 ab ab)) [.no,.no,.tree])) (rg 12) (Y7 p (aD0::(au6 p q [aJ3,.row 3 (D.ints (C8 true 5 q 0 p.body).fst),.row 3 (D.ints (C8 true 5 q 0 p.body).snd),.tree (D.stmts p.body),.box [.ref 8,.ref 9,.tref 10]]))) (aj9 [(5,.ptr 11 0)]) fun G=>b6 (wp_seq (wp_seq (C6 G (x6 2 [8,9,10,4,5,6] (j8.lend (aS9 ((C8 true 5 q 0 p.body).fst) ((C8 true 5 q 0 p.body).snd) p.body q.fst q.snd p.body) [.row 3,.row 3,.tree,.row 3,.row 3,.tree])) (aj9 [(5,.ptr 11 0),(22,bA (decide ((C8 true 5 q 0 p.body).fst=q.fst)&&(decide ((C8 true 5 q 0 p.body).snd=q.snd)&&B7 p.body p.body)))]) fun G=>b6 ?_)))))));cases h1:(decide ((C8 true (5:Nat) q (0:Int) p.body).fst=q.fst)&&(decide ((C8 true (5:Nat) q (0:Int) p.body).snd=q.snd)&&B7 p.body p.body))
   · have q1:(¬((C8 true 5 q 0 p.body).fst=q.fst))\/((¬((C8 true 5 q 0 p.body).snd=q.snd))\/((B7 p.body p.body)=false)):=Or.imp (fun hq=>of_decide_eq_false hq) (fun hq=>Or.imp (fun hq=>of_decide_eq_false hq) (fun hq=>(hq)) (Bool.and_eq_false_iff.1 hq)) (Bool.and_eq_false_iff.1 h1);refine rF G _ h1 (wp_skip (b6 (j7 G f8 [0,1,2,3,7,8,9,10] (Y7 p [aD0,.box [.ref 5,.ref 6,.tref 7],.row 3 (D.ints (C8 true 5 q 0 p.body).fst),.row 3 (D.ints (C8 true 5 q 0 p.body).snd),.tree (D.stmts p.body)]) [(2,.ptr 3 0),(3,bA false),(4,.ptr 4 0)] fun G=>m8 (b6 ?_))));exact P7 G (C8 true 5 q 0 p.body) (ao5 ab) (bR0 ab ab (bk8 ab)) [0,1,2,3,5,6,7,4]
   have q1:((C8 true 5 q 0 p.body).fst=q.fst)/\(((C8 true 5 q 0 p.body).snd=q.snd)/\((B7 p.body p.body)=true)):=And.imp (fun hq=>of_decide_eq_true hq) (fun hq=>And.imp (fun hq=>of_decide_eq_true hq) (fun hq=>(hq)) (Bool.and_eq_true_iff.1 hq)) (Bool.and_eq_true_iff.1 h1);refine rT G _ h1 (wp_exit (t4 ?_));refine b51 aj ?_;refine t4 (t3 (b6 (wp_seq (j7 G (x6 1 [4,5,6] (j8.lend (aa5 q.fst q.snd p.body al) [.row 3,.row 3,.tree])) (rg 8) (Y7 p (aD0::(au6 p q [aJ3]))) (aj9 [(6,iA (X9 (i6.mk q.fst q.snd p.body) false).fst)]) fun G=>b6 (wp_seq (wp_seq (l6 G f8 [(30,bA ((X9 (i6.mk q.fst q.snd p.body) false).fst !=0))] fun G=>b6 (rcN G (fun h2 q2=>?_) fun h2 q2=>?_))))))))
   · refine wp_skip (b6 (wp_seq (j7 G f8 (rg 7) (Y7 p (aJ3::(au6 p q []))) [(2,.ptr 3 0),(3,bA true)] fun G=>b6 (wp_ret ?_))));exact T9 (.tup [.agg [.ref 4,.ref 5,.tref 6],bA true]) G [0,1,2,4,5,6] (by have e1:(okI p:Bool)=(true):=(cp1 ab ab (af4 ab) ab);(first|rw[e1]|simp only[e1])<;>rfl) (by show _=mR [0,1,2,4,5,6] (aT9 p);unfold aT9;rw[b25 ab ab (af4 ab) (cp1 ab ab (af4 ab) ab)]<;>rfl)
   refine wp_seq (C6 G f8 (aj9 []) fun G=>b6 (wp_ret (l7 ?_)));obtain⟨ρ,G⟩:=G.nil 8 3 (.ints []) 1 (Y7 p (.box [.ref 8,.v (.slice none 0 0),.v (.slice none 0 0)]::(au6 p q [.box [.ref 4,.ref 5,.tref 6]]))) (aj9 []);obtain⟨ρ,G⟩:=G.nil 9 3 (.ints []) 1 (Y7 p (.box [.ref 8,.ref 9,.v (.slice none 0 0)]::(au6 p q [.box [.ref 4,.ref 5,.tref 6],.row 3 (D.ints [])]))) (aj9 []);obtain⟨ρ,G⟩:=G.nilT 10 (.stmts []) (Y7 p (.box [.ref 8,.ref 9,.tref 10]::(au6 p q [.box [.ref 4,.ref 5,.tref 6],.row 3 (D.ints []),.row 3 (D.ints [])]))) (aj9 []);exact T9 (.tup [.agg [.ref 8,.ref 9,.tref 10],bA false]) G [0,1,2,8,9,10] (by have e1:(okI p:Bool)=(false):=(cp2 ab ab (af4 ab) ab);(first|rw[e1]|simp only[e1])<;>rfl) (by show _=mR [0,1,2,8,9,10] (aT9 p);unfold aT9;rw[by0 (cp2 ab ab (af4 ab) ab)]<;>rfl)
  have q0:(n9 p)=false:=(Eq.mp (cF7 _) h0);refine rT G _ h0 (wp_seq (C6 G f8 [(1,.ptr 3 0),(2,.ptr 4 0),(3,bA false)] fun G=>b6 (wp_ret (l7 ?_))));obtain⟨ρ,G⟩:=G.nil 5 3 (.ints []) 1 (Y7 p [.box (pL 0),.box [.ref 5,.v (.slice none 0 0),.v (.slice none 0 0)]]) [(1,.ptr 3 0),(2,.ptr 4 0),(3,bA false)];obtain⟨ρ,G⟩:=G.nil 6 3 (.ints []) 1 (Y7 p [.box (pL 0),.box [.ref 5,.ref 6,.v (.slice none 0 0)],.row 3 (D.ints [])]) [(1,.ptr 3 0),(2,.ptr 4 0),(3,bA false)];obtain⟨ρ,G⟩:=G.nilT 7 (.stmts []) (Y7 p [.box (pL 0),.box [.ref 5,.ref 6,.tref 7],.row 3 (D.ints []),.row 3 (D.ints [])]) [(1,.ptr 3 0),(2,.ptr 4 0),(3,bA false)];exact T9 (.tup [.agg [.ref 5,.ref 6,.tref 7],bA false]) G [0,1,2,5,6,7] (by have e1:(okI p:Bool)=(false):=(bN9 ab);(first|rw[e1]|simp only[e1])<;>rfl) (by show _=mR [0,1,2,5,6,7] (aT9 p);unfold aT9;rw[by0 (bN9 ab)]<;>rfl)
abbrev nvL:List Int:=[3]++([4]++([2]++([5]++[])))
abbrev viL:List Int:=[0]++([1]++([0]++([1]++([2]++([3]++[])))))
abbrev naL:List Int:=[1]++([2]++([0]++([1]++[])))
abbrev aiL:List Int:=[0]++([1]++([0]++([1]++([3]++[]))))
abbrev nbL:List Int:=[2]++([3]++([1]++([4]++[])))
def nsD(b:List UInt8)(l:List Int)(n:Nat)(k:Int):List Int:=(cF5 n).map fun(i:Nat)=>nm b (k+(i:Int)) l
theorem ao1(b:List UInt8)(l:List Int)(n:Nat)(k:Int):(nsD b l n k).length=n:=by simp[nsD]
theorem bO3(b:List UInt8)(l:List Int)(n:Nat)(k:Int):nsD b l (n+1) k=nsD b l n k++[nm b (k+(n:Int)) l]:=by
 unfold nsD;rw[List.range_succ,List.map_append];rfl
def M6(b:List UInt8)(k:Int):Int:=k+1+nm b k nvL
def kp2(b:List UInt8)(k:Int):Int:=M6 b k+1+nm b (M6 b k) naL
def vsD(b:List UInt8)(k:Int):List Int:=nsD b viL (nm b k nvL).toNat (k+1)
def asD(b:List UInt8)(k:Int):List Int:=nsD b aiL (nm b (M6 b k) naL).toNat (M6 b k+1)
def R8(b:List UInt8)(k:Int):List c6×Int:=K3 (E6 b (vsD b k).length (asD b k).length 3) (nm b (kp2 b k) nbL).toNat (kp2 b k+1)
def rwD(b:List UInt8)(k:Int):i6:=⟨vsD b k,asD b k,(R8 b k).1⟩
def fbP:i6:=⟨[0,1],[],[⟨1,1,noE,⟨2,0,[]⟩,0,[],[]⟩]⟩
def O9(b:List UInt8)(k:Int):i6:=if n9 (rwD b k)=true then rwD b k else fbP
section
variable(b:List UInt8){k:Int}
theorem cd6(hk:0<=k)(hk2:k<=1000000000):0<=nm b k nvL/\nm b k nvL<=5:=aW2 b an an hk hk2
theorem cp7(hk:0<=k)(hk2:k<=1000000000):0<=nm b k nbL/\nm b k nbL<=4:=aW2 b an an hk hk2
theorem cd9(hk:0<=k)(hk2:k<=1000000000):0<=nm b k naL/\nm b k naL<=2:=aW2 b an an hk hk2
theorem bP8(hk:0<=k)(hk2:k<=10000000):k+1<=M6 b k/\M6 b k<=k+6:=by
 have:=cd6 b hk al;unfold M6;omega
theorem bx8(hk:0<=k)(hk2:k<=10000000):k+2<=kp2 b k/\kp2 b k<=k+9:=by
 have h1:=bP8 b hk hk2
 have:=cd9 b (k:=M6 b k) al al;unfold kp2;omega
theorem cS3:cS 3=34170/\cS 2=8442:=ak
theorem cC6(nv na:Nat):Drw (E6 b nv na 3) 34170:=fun j h1 h2=>by
 have e:=cS3.1
 have h3:=a96 b nv na 3 j h1 al
 have h4:=bk2 b nv na 3 j h1 al
 omega
theorem bA1(hk:0<=k)(hk2:k<=10000000):kp2 b k<=(R8 b k).2/\(R8 b k).2<=k+150000/\j6 (R8 b k).1<=150000:=by
 have h1:=bx8 b hk hk2
 have h2:=cp7 b (k:=kp2 b k) al al
 have h3:=a49 (f:=E6 b (vsD b k).length (asD b k).length 3) al (cC6 b _ _) (nm b (kp2 b k) nbL).toNat (kp2 b k+1) al al
 unfold R8
 omega
theorem bI8(hk:0<=k)(hk2:k<=10000000):(vsD b k).length<=5:=by
 have:=cd6 b hk al;unfold vsD;rw[ao1];omega
theorem bV8(hk:0<=k)(hk2:k<=10000000):(asD b k).length<=2:=by
 have h1:=bP8 b hk hk2
 have:=cd9 b (k:=M6 b k) al al;unfold asD;rw[ao1];omega
theorem cf9:n9 fbP=true:=by decide+kernel
theorem bN1(k:Int):n9 (O9 b k)=true:=by
 unfold O9;split
 ·assumption
 exact cf9
theorem bN0(hk:0<=k)(hk2:k<=10000000):(O9 b k).size<=160000:=by
 have h1:=bA1 b hk hk2
 have h2:=bI8 b hk hk2
 have h3:=bV8 b hk hk2
 unfold O9;split
 ·show(vsD b k).length+(asD b k).length+j6 (R8 b k).1<=160000
  omega
 decide
end
def W0(b:List UInt8)(k:Int):i6:=if pk b (R8 b k).2 4=0 then O9 b k else if okI (O9 b k)=true then aj5 (O9 b k)else O9 b k
theorem b24{p:i6}:(aj5 p).size<=p.size:=by
 unfold aj5
 split
 ·have h:=(aO7 (p:=p) (by rename_i h;unfold okI at h;simp at h;exact h.1)).1
  show(aB0 p).1.length+(aB0 p).2.length+j6 p.body<=_
  unfold i6.size
  have h1:(aB0 p).1.length=p.vars.length:=h.1
  have h2:(aB0 p).2.length=p.arrays.length:=h.2
  omega
 simp[i6.size,j6]
theorem bj6(b:List UInt8){k:Int}(hk:0<=k)(hk2:k<=10000000):(W0 b k).size<=160000:=by
 have h1:=bN0 b hk hk2
 have h2:=b24 (p:=O9 b k)
 unfold W0
 (repeat' split)<;>omega
def bsD(c:List UInt8):List UInt8:=c.take 2000
abbrev opL:List Int:=[1]++([2]++([3]++([6]++([2]++([7]++([9]++([4]++([5]++([11]++([8]++([12]++[])))))))))))
abbrev vaL:List Int:=[0]++([1]++([2]++([3]++([255]++([128]++([7]++([4]++([100]++[]))))))))
abbrev lnL:List Int:=[6]++([8]++([4]++([10]++([1]++([12]++[])))))
def opD(b:List UInt8)(j:Int)(na:Nat):Int:=if na=0/\(nm b j opL=4\/nm b j opL=5)then 2 else nm b j opL
def ptD(b:List UInt8)(j:Int)(nv na:Nat)(at0 n:Int)(kd:UInt8):Int:=
 if kd=114 then pk b j 3 else if kd=99 then nm b j vaL else if kd=118 then pk b j nv else if kd=97 then pk b j na else if kd=111 then 4+pk b j 7 else at0+1+pk b j (n-at0-1)
def psD(b:List UInt8)(j:Int)(nv na:Nat)(at0 n:Int)(ks:List UInt8)(k:Nat):List Int:=(cF5 4).map fun i=>if i<k then ptD b (j+i) nv na at0 n (ks.getD i 0)else 0
theorem bw1(b:List UInt8)(j:Int)(nv na:Nat)(at0 n:Int)(ks:List UInt8)(k:Nat):(psD b j nv na at0 n ks k).length=4:=by simp[psD]
theorem bM6(b:List UInt8)(j:Int)(nv na:Nat)(at0 n:Int)(ks:List UInt8){k:Nat}(hk:k<4):psD b j nv na at0 n ks (k+1)=(psD b j nv na at0 n ks k).set k (ptD b (j+k) nv na at0 n (ks.getD k 0)):=by
 apply List.ext_getElem (by simp[bw1])
 intro i h1 h2
 rw[List.getElem_set]
 simp only[psD,List.getElem_map,List.getElem_range]
 by_cases e:k=i
 ·subst e;simp
 rw[if_neg e]
 have:(i<k+1)↔(i<k):=al
 simp only[this]
def rnD(b:List UInt8)(j:Int)(nv na:Nat)(at0 n:Int):d9×Int:=
 (⟨opD b j na,(psD b (j+1) nv na at0 n (r8 (opD b j na)) (r8 (opD b j na)).length).getD 0 0,(psD b (j+1) nv na at0 n (r8 (opD b j na)) (r8 (opD b j na)).length).getD 1 0,
  (psD b (j+1) nv na at0 n (r8 (opD b j na)) (r8 (opD b j na)).length).getD 2 0,(psD b (j+1) nv na at0 n (r8 (opD b j na)) (r8 (opD b j na)).length).getD 3 0⟩,j+1+(r8 (opD b j na)).length)
theorem cz1(b:List UInt8)(j:Int)(nv na:Nat)(at0 n:Int):j+1<=(rnD b j nv na at0 n).2/\(rnD b j nv na at0 n).2<=j+5:=by
 have:=au0 (opD b j na)
 unfold rnD
 simp only
 omega
def rsD(b:List UInt8)(j:Int)(nv na:Nat)(n:Int):Nat->List d9×Int
 |0=>([],j)
 |k+1=>((rsD b j nv na n k).1++[(rnD b (rsD b j nv na n k).2 nv na k n).1],(rnD b (rsD b j nv na n k).2 nv na k n).2)
theorem cb8(b:List UInt8)(j:Int)(nv na:Nat)(n:Int):∀k:Nat,(rsD b j nv na n k).1.length=k/\j<=(rsD b j nv na n k).2/\(rsD b j nv na n k).2<=j+5*k
 |0=>by simp[rsD]
 | k + 1 => by
  obtain⟨h1,h2,h3⟩:=cb8 b j nv na n k
  have h4:=cz1 b (rsD b j nv na n k).2 nv na k n
  have e2:(rsD b j nv na n (k+1)).2=(rnD b (rsD b j nv na n k).2 nv na k n).2:=rfl
  have e1:(rsD b j nv na n (k+1)).1.length=k+1:=by
   show((rsD b j nv na n k).1++[(rnD b (rsD b j nv na n k).2 nv na k n).1]).length=k+1
   rw[cE0,h1];rfl
  rw[e1,e2]
  generalize (rnD b (rsD b j nv na n k).2 nv na k n).2=x at h4 ⊢
  generalize (rsD b j nv na n k).2=y at*
  refine⟨rfl,?_,?_⟩<;>omega
def clD(b:List UInt8)(j:Int)(nv na:Nat):List d9×Int:=
 (fun(n:Int)=>
  (fun(r:List d9×Int)=>
   if n>3 then
    (if pk b r.2 4=0 then(((r.1++[(⟨13,0,0,0,0⟩:d9)]).set 0 ⟨1,5,1+pk b (r.2+1) 3,0,0⟩).set (n-2).toNat ⟨10,5,1,0,0⟩,r.2+2)else(r.1++[⟨13,0,0,0,0⟩],r.2+1))
   else(r.1++[⟨13,0,0,0,0⟩],r.2)) (rsD b (j+1) nv na n (n-1).toNat)) (nm b j lnL)
theorem ce0(b:List UInt8){j:Int}(hj:0<=j)(hj2:j<=1000000000):1<=nm b j lnL/\nm b j lnL<=12:=by
 have h:=at4 b hj hj2 (l:=lnL) (List.cons_ne_nil _ _)
 generalize nm b j lnL=x at h ⊢
 simp only[lnL,List.cons_append,List.nil_append,cH6,List.not_mem_nil,or_false]at h
 omega
theorem cC7(b:List UInt8){j:Int}(nv na:Nat)(hj:0<=j)(hj2:j<=1000000000):(clD b j nv na).1.length=(nm b j lnL).toNat/\j+1<=(clD b j nv na).2/\(clD b j nv na).2<=j+70:=by
 have hn:=ce0 b hj hj2
 obtain⟨h1,h2,h3⟩:=cb8 b (j+1) nv na (nm b j lnL) (nm b j lnL-1).toNat
 unfold clD
 simp only
 split
 ·split
  ·simp only[cG4,cE0,cE5,cE9,h1];omega
  simp only[cE0,cE5,cE9,h1];omega
 simp only[cE0,cE5,cE9,h1];omega
structure z6 where
 vals:List Int
 arrs:List (List Int)
def J3(l:List Int):Bool:=l.all fun n=>decide (0<=n)&&decide (n<=255)
def X7(a:List Int):Bool:=decide (a.length=4)&&J3 a
def L4(nv na:Nat)(m:z6):Bool:=decide (m.vals.length=nv)&&(decide (m.arrs.length=na)&&(J3 m.vals&&m.arrs.all X7))
def vlD(b:List UInt8)(j:Int)(n:Nat):List Int:=(cF5 n).map fun i:Nat=>nm b (j+i) vaL
theorem as3(b:List UInt8)(j:Int)(n:Nat):(vlD b j n).length=n:=by simp[vlD]
theorem cx5(b:List UInt8)(j:Int):vlD b j 0=[]:=rfl
theorem a00(b:List UInt8)(j:Int)(k:Nat):vlD b j (k+1)=vlD b j k++[nm b (j+k) vaL]:=by
 unfold vlD;rw[List.range_succ,List.map_append];rfl
def arD(b:List UInt8)(j:Int)(n:Nat):List (List Int):=(cF5 n).map fun i:Nat=>vlD b (j+4*i) 4
theorem bW0(b:List UInt8)(j:Int)(n:Nat):(arD b j n).length=n:=by simp[arD]
theorem b53(b:List UInt8)(j:Int)(k:Nat):arD b j (k+1)=arD b j k++[vlD b (j+4*k) 4]:=by
 unfold arD;rw[List.range_succ,List.map_append];rfl
theorem cw3(b:List UInt8)(j:Int)(n:Nat):∀a∈arD b j n,a.length=4:=by
 intro a ha
 obtain⟨i,_,rfl⟩:=List.mem_map.1 ha
 exact as3 _ _ _
def mmD(b:List UInt8)(j:Int)(nv na:Nat):z6:=⟨vlD b j nv,arD b (j+nv) na⟩
section
variable{nv na:Nat}{m:z6}
theorem ct2(h:¬(m.vals.length:Int)=nv):L4 nv na m=false:=by unfold L4;rw[decide_eq_false (p:=m.vals.length=nv) al];rfl
theorem ct1(h:¬(m.arrs.length:Int)=na):L4 nv na m=false:=by unfold L4;rw[decide_eq_false (p:=m.arrs.length=na) al];simp
theorem ct0(h:J3 m.vals=false):L4 nv na m=false:=by unfold L4;rw[h];simp
theorem cs9(h1:(m.vals.length:Int)=nv)(h2:(m.arrs.length:Int)=na)(h3:J3 m.vals=true):L4 nv na m=m.arrs.all X7:=by
 unfold L4
 rw[decide_eq_true (p:=m.vals.length=nv) al,decide_eq_true (p:=m.arrs.length=na) al,h3];rfl
theorem ae9(h:L4 nv na m=true):m.vals.length=nv/\m.arrs.length=na/\J3 m.vals=true/\m.arrs.all X7=true:=by
 unfold L4 at h
 simpa[cD5]using h
end
theorem co4{b:List UInt8}{j n:Int}(h:n<1):pk b j n=0:=by unfold pk;rw[if_pos (.inl h)]
theorem cB1{b:List UInt8}{j n:Int}(h:(b.length:Int)=0):pk b j n=0:=by unfold pk;rw[if_pos (.inr al)]
theorem cB0{b:List UInt8}{j n:Int}(h:¬n<1)(h1:¬(b.length:Int)=0)(h2:j+1-1<b.length):pk b j n=((b.getD (j+1-1).toNat 0).toNat:Int).tmod n:=by
 unfold pk;rw[if_neg al,if_pos al,Int.add_sub_cancel]
theorem cA9{b:List UInt8}{j n:Int}(h:¬n<1)(h1:¬(b.length:Int)=0)(h2:¬j+1-1<b.length):pk b j n=(bj3 (pkX b (j+1-1)) ((pkX b (j+1-1)).tdiv 64)).tmod n:=by
 unfold pk;rw[if_neg al,if_neg al,Int.add_sub_cancel]
theorem bD5{x:Int}{n:Nat}(hx:0<=x)(hn:¬(n:Int)=0):0<=x.tmod n/\x.tmod n<n/\(x.tmod n).toNat<n:=by
 have:=bj7 (x:=x) (n:=n) hx al;omega
theorem G0(b:List UInt8)(j n:Int)(r0:0<=j)(r1:j<=1000000000):j8.ok Tryz.prog ⟨69,[.ptr 0 0,iA n],[.box [.ref 1,iA j],dY b],[.box [.ref 1,iA (j+1)],dY b],iA (pk b j n)⟩:=by
  refine D9 99 Tryz.func69 [.box [.ref 1,iA j],dY b] [(0,.ptr 0 0),(1,iA n)] fun G=>?_;have hu1:=a88 (b.getD ((j+1-1).tmod b.length).toNat 0);have hu2:=a88 (b.getD (((j+1-1)*7+3).tmod b.length).toNat 0);refine wp_seq (l6 G f8 [(4,iA 0)] fun G=>b6 (wp_seq (R9 G f8 [0,1] [.box [.ref 1,iA (j+1)],dY b] [(0,.ptr 0 0),(1,iA n),(4,iA 0)] [wO (j+1)] (o1 al) fun G=>b6 (wp_seq (wp_seq ?_)))));cases h0:(decide (n<1))
  ·
   have q0:=dFf h0;refine l6 G (H2 (fc h0 fz) (us [(3,8,0),(1009,1009,0)])) [(24,bA ((b.length:Int)==0))] fun G=>b6 (V3 G (fun h1 q1=>?_) fun h1 q1=>?_)
   ·
    refine wp_skip (b6 (wp_seq (H0 G f8 [(5,iA (j+1-1))] [wO (j+1-1)] (o1 al) fun G=>b6 (wp_seq (wp_seq (l6 G f8 [(36,bA (decide (j+1-1<(b.length:Int))))] fun G=>b6 (rcD G (fun h2 q2=>?_) fun h2 q2=>?_)))))))
    ·
     refine wp_skip (b6 (wp_seq (aj3 G f8 [0,1,3,7,0,0,32,96,224,480,1008,2047,4095,8191,16383,0,32768,98304,229376,0,524288,1572864,0,4194304,12582912,29360128,62914560,133693440,268402688,536838144,1073709056,2147450880,4294967295,0,8589934592,34359738367,0,0,137438953472,412316860416,962072674304,2061584302080,4329327034368,8727373545472,17592186044415,35184372088831] [(6,iA (((b.getD ((j+1-1).tmod (b.length:Int)).toNat 0).toNat:Int)*131+((b.getD (((j+1-1)*7+3).tmod (b.length:Int)).toNat 0).toNat:Int)*1117+(j+1-1)*29+(j+1-1).tdiv (b.length:Int)*53))] [(b.length:Int)≠0,(0:Int)<=(j+1-1).tmod (b.length:Int),(j+1-1).tmod (b.length:Int)<b.length,((j+1-1).tmod (b.length:Int)).toNat<b.length,IntKind.i64.wrap ((b.getD ((j+1-1).tmod (b.length:Int)).toNat (0:UInt8)).toNat:Int)=((b.getD ((j+1-1).tmod (b.length:Int)).toNat (0:UInt8)).toNat:Int),wO (((b.getD ((j+1-1).tmod (b.length:Int)).toNat (0:UInt8)).toNat:Int)*131),wO ((j+1-1)*7),wO ((j+1-1)*7+3),(b.length:Int)≠0,(0:Int)<=((j+1-1)*7+3).tmod (b.length:Int),((j+1-1)*7+3).tmod (b.length:Int)<b.length,(((j+1-1)*7+3).tmod (b.length:Int)).toNat<b.length,IntKind.i64.wrap ((b.getD (((j+1-1)*7+3).tmod (b.length:Int)).toNat (0:UInt8)).toNat:Int)=((b.getD (((j+1-1)*7+3).tmod (b.length:Int)).toNat (0:UInt8)).toNat:Int),wO (((b.getD (((j+1-1)*7+3).tmod (b.length:Int)).toNat (0:UInt8)).toNat:Int)*1117),wO (((b.getD ((j+1-1).tmod (b.length:Int)).toNat (0:UInt8)).toNat:Int)*131+((b.getD (((j+1-1)*7+3).tmod (b.length:Int)).toNat (0:UInt8)).toNat:Int)*1117),wO ((j+1-1)*29),wO (((b.getD ((j+1-1).tmod (b.length:Int)).toNat (0:UInt8)).toNat:Int)*131+((b.getD (((j+1-1)*7+3).tmod (b.length:Int)).toNat (0:UInt8)).toNat:Int)*1117+(j+1-1)*29),(b.length:Int)≠0,wO ((j+1-1).tdiv (b.length:Int)),wO ((j+1-1).tdiv (b.length:Int)*53),wO (((b.getD ((j+1-1).tmod (b.length:Int)).toNat (0:UInt8)).toNat:Int)*131+((b.getD (((j+1-1)*7+3).tmod (b.length:Int)).toNat (0:UInt8)).toNat:Int)*1117+(j+1-1)*29+(j+1-1).tdiv (b.length:Int)*53)] ⟨ai,((bD5 al al).1),((bD5 al al).2.1),((bD5 al al).2.2),(w64 al al),(oW al),(oW al),(oW al),ai,((bD5 al al).1),((bD5 al al).2.1),((bD5 al al).2.2),(w64 al al),(oW al),(oW al),(oW al),(oW al),ai,(by have:=bc3 (b:=b) (k:=j+1-1) al al al;exact w64 (by unfold pkX at this;omega) (by unfold pkX at this;omega)),(by have:=bc3 (b:=b) (k:=j+1-1) al al al;exact w64 (by unfold pkX at this;omega) (by unfold pkX at this;omega)),(by have:=bc3 (b:=b) (k:=j+1-1) al al al;exact w64 (by unfold pkX at this;omega) (by unfold pkX at this;omega)),cF1⟩ fun G=>?_)))
     refine b6 (wp_seq (H0 G f8 [(6,iA (bj3 (((b.getD ((j+1-1).tmod (b.length:Int)).toNat 0).toNat:Int)*131+((b.getD (((j+1-1)*7+3).tmod (b.length:Int)).toNat 0).toNat:Int)*1117+(j+1-1)*29+(j+1-1).tdiv (b.length:Int)*53) ((((b.getD ((j+1-1).tmod (b.length:Int)).toNat 0).toNat:Int)*131+((b.getD (((j+1-1)*7+3).tmod (b.length:Int)).toNat 0).toNat:Int)*1117+(j+1-1)*29+(j+1-1).tdiv (b.length:Int)*53).tdiv 64)))] [(64:Int)≠0,wO ((((b.getD ((j+1-1).tmod (b.length:Int)).toNat (0:UInt8)).toNat:Int)*131+((b.getD (((j+1-1)*7+3).tmod (b.length:Int)).toNat (0:UInt8)).toNat:Int)*1117+(j+1-1)*29+(j+1-1).tdiv (b.length:Int)*53).tdiv (64:Int))] ⟨al,(by have:=b73 (b:=b) (k:=j+1-1) al al al;exact w64 (by unfold pkX at this;omega) (by unfold pkX at this;omega)),cF1⟩ fun G=>b6 (wp_seq (H0 G f8 [(4,iA ((bj3 (((b.getD ((j+1-1).tmod (b.length:Int)).toNat 0).toNat:Int)*131+((b.getD (((j+1-1)*7+3).tmod (b.length:Int)).toNat 0).toNat:Int)*1117+(j+1-1)*29+(j+1-1).tdiv (b.length:Int)*53) ((((b.getD ((j+1-1).tmod (b.length:Int)).toNat 0).toNat:Int)*131+((b.getD (((j+1-1)*7+3).tmod (b.length:Int)).toNat 0).toNat:Int)*1117+(j+1-1)*29+(j+1-1).tdiv (b.length:Int)*53).tdiv 64)).tmod n))] [n≠0] ⟨al,cF1⟩ fun G=>b6 (wp_ret ?_)))));exact rxI ((bj3 (((b.getD ((j+1-1).tmod (b.length:Int)).toNat 0).toNat:Int)*131+((b.getD (((j+1-1)*7+3).tmod (b.length:Int)).toNat 0).toNat:Int)*1117+(j+1-1)*29+(j+1-1).tdiv (b.length:Int)*53) ((((b.getD ((j+1-1).tmod (b.length:Int)).toNat 0).toNat:Int)*131+((b.getD (((j+1-1)*7+3).tmod (b.length:Int)).toNat 0).toNat:Int)*1117+(j+1-1)*29+(j+1-1).tdiv (b.length:Int)*53).tdiv 64)).tmod n) G [0,1] (cA9 al al al)
    refine wp_seq (H0 G f8 [(4,iA (((b.getD (j+1-1).toNat 0).toNat:Int).tmod n))] (iX (j+1-1) ((j+1-1).toNat) b.length ((IntKind.i64.wrap ((b.getD (j+1-1).toNat (0:UInt8)).toNat:Int)=((b.getD (j+1-1).toNat (0:UInt8)).toNat:Int))::((n≠0)::[]))) (iK al ⟨(by have:=a88 (b.getD (j+1-1).toNat 0);exact w64 al al),⟨al,cF1⟩⟩) fun G=>b6 (wp_ret (l7 ?_)));exact rxI (((b.getD (j+1-1).toNat 0).toNat:Int).tmod n) G [0,1] (cB0 al al al)
   refine wp_seq (l6 G f8 [] fun G=>b6 (wp_ret (l7 ?_)));exact rxI 0 G [0,1] (cB1 al)
  have q0:=dTt h0;refine l6 G (H2 (fc h0 fz) (us [(3,8,0),(1009,1009,0)])) [(24,bA true)] fun G=>b6 (rT G true aj (wp_seq (l6 G f8 [] fun G=>b6 (wp_ret (l7 ?_)))));exact rxI 0 G [0,1] (co4 al)
theorem Z6(b:List UInt8)(j:Int)(l:List Int)(hl:l≠[])(r0:0<=j)(r1:j<=1000000000):j8.ok Tryz.prog ⟨109,[.ptr 0 0,.ref 2],[.box [.ref 1,iA j],dY b,dI l],[.box [.ref 1,iA (j+1)],dY b,dI l],iA (nm b j l)⟩:=by
 refine D9 12 Tryz.func109 [.box [.ref 1,iA j],dY b,dI l] [(0,.ptr 0 0),(1,.ref 2)] fun G=>?_;refine wp_seq (l6 G f8 [(4,iA 0)] fun G=>b6 (wp_seq (R9 G (x6 4 [0,1] (G0 b j ((l.length:Int)) ai ai)) [0,1,2] [.box [.ref 1,iA (j+1)],dY b,dI l] [(4,iA (l.getD (pk b j (l.length:Int)).toNat 0))] [(0:Int)<=pk b j (l.length:Int),pk b j (l.length:Int)<l.length,(pk b j (l.length:Int)).toNat<l.length] ⟨((bw9 b r0 r1 hl).1),((bw9 b r0 r1 hl).2.1),((bw9 b r0 r1 hl).2.2),cF1⟩ fun G=>b6 (wp_ret ?_))));exact G7 G [0,1,2]
theorem bq7(c:List UInt8)(hc:c.length<=2000):j8.ok Tryz.prog ⟨26,[.ref 0],[dY c],[dY c,.box [.ref 0,iA 0]],.ptr 1 0⟩:=by
 refine D9 11 Tryz.func26 [dY c] [(0,.ref 0)] fun G=>?_;refine wp_seq (l6 G f8 [(2,.v (.pointer none))] fun G=>b6 (wp_seq (wp_seq (C6 G f8 [(0,.ref 0),(2,.v (.pointer none)),(5,bA (decide ((c.length:Int)>2000)))] fun G=>b6 ?_))));cases h0:(decide ((c.length:Int)>2000))
 ·have q0:=dFf h0;refine rF G _ h0 (wp_skip (b6 (wp_seq (j7 G f8 [0,17] [dY c,.box [.ref 0,iA 0]] [(2,.ptr 1 0)] fun G=>b6 (wp_ret ?_)))));exact G7 G [0,1]
 have q0:=dTt h0;exact False.elim al
theorem bq6(c:List UInt8)(hc:2000<c.length):j8.ok Tryz.prog ⟨26,[.ref 0],[dY c],[dY c,.box [.ref 2,iA 0],dY ((c.take 2000).drop 0)],.ptr 1 0⟩:=by
 refine D9 11 Tryz.func26 [dY c] [(0,.ref 0)] fun G=>?_;refine wp_seq (l6 G f8 [(2,.v (.pointer none))] fun G=>b6 (wp_seq (wp_seq (C6 G f8 [(0,.ref 0),(2,.v (.pointer none)),(5,bA (decide ((c.length:Int)>2000)))] fun G=>b6 ?_))));cases h0:(decide ((c.length:Int)>2000))
 ·have q0:=dFf h0;exact False.elim al
 have q0:=dTt h0;refine rT G _ h0 (R9 G f8 [0,9] [dY c,dY (List.drop 0 (cE3 (Int.toNat 2000) c))] [(0,.ref 1),(2,.v (.pointer none))] [(0:Int)<=2000,(2000:Int)<=c.length] ⟨al,al,cF1⟩ fun G=>b6 (wp_seq (j7 G f8 [0,1,18] [dY c,dY (List.drop 0 (cE3 (Int.toNat 2000) c)),.box [.ref 1,iA 0]] [(2,.ptr 2 0)] fun G=>b6 (wp_ret ?_))));exact G7 G [0,2,1]
abbrev dwS(b:List UInt8)(j:Int)(vs ars:List Int)(bd:List c6):List It:=[.box [.ref 1,iA j],dY b,dI vs,dI ars,dT bd]
abbrev exO(e:c7):List It:=[.tree (.exprs e.kids)]
abbrev exA(e:c7)(r:Nat):AV:=.agg [iA e.kind,iA e.value,.tref r]
theorem cw0{b:List UInt8}{nv j:Int}(h:pk b j 3=0):t7 b nv j=⟨1,nm b (j+1) atL,[]⟩:=if_pos h
theorem cv9{b:List UInt8}{nv j:Int}(h:¬pk b j 3=0):t7 b nv j=⟨2,pk b (j+1) nv,[]⟩:=if_neg h
theorem aC1(b:List UInt8)(j:Int)(vs ars:List Int)(bd:List c6)(r0:0<=j)(r1:j<=900000000):j8.ok Tryz.prog ⟨188,[.ptr 0 0,pA 2],dwS b j vs ars bd,dwS b (j+2) vs ars bd++exO (t7 b vs.length j),exA (t7 b vs.length j) 5⟩:=by
 refine D9 18 Tryz.func188 [.box [.ref 1,iA j],dY b,dI vs,dI ars,dT bd] [(0,.ptr 0 0),(1,pA 2)] fun G=>?_;refine wp_seq (j7 G f8 [0,1,2,3,4,5,13] [.box [.ref 1,iA j],dY b,dI vs,dI ars,dT bd,.box (pL 2),.box [iA 0,iA 0,.v (.slice none 0 0)]] [(0,.ptr 0 0),(3,.ptr 5 0),(4,.ptr 6 0)] fun G=>b6 (wp_seq (wp_seq (j7 G (x6 1 [0,1] (G0 b j 3 ai al)) (rg 7) [.box [.ref 1,iA (j+1)],dY b,dI vs,dI ars,dT bd,.box (pL 2),.box [iA 0,iA 0,.v (.slice none 0 0)]] [(0,.ptr 0 0),(3,.ptr 5 0),(4,.ptr 6 0),(7,bA (pk b j 3==0))] fun G=>b6 (V3 G (fun h0 q0=>?_) fun h0 q0=>?_)))))
 ·refine wp_skip (b6 (wp_seq (j7 G (x6 4 [0,1] (G0 b (j+1) ((vs.length:Int)) al al)) [0,1,2,3,4,6] [.box [.ref 1,iA (j+1+1)],dY b,dI vs,dI ars,dT bd,.box [iA 2,iA (pk b (j+1) (vs.length:Int)),.v (.slice none 0 0)]] [(4,.ptr 5 0)] fun G=>b6 (wp_ret ?_))));obtain⟨ρ,G⟩:=G.nilT 6 (.exprs []) [.box [.ref 1,iA (j+1+1)],dY b,dI vs,dI ars,dT bd,.box [iA 2,iA (pk b (j+1) (vs.length:Int)),.tref 6]] [(4,.ptr 5 0)];exact T9 (.agg [iA 2,iA (pk b (j+1) (vs.length:Int)),.tref 6]) G [0,1,2,3,4,6] (by show _=AV.ren (nth [0,1,2,3,4,6]) (.agg [iA (t7 b (vs.length:Int) j).kind,iA (t7 b (vs.length:Int) j).value,.tref 5]);rw[cv9 al]<;>rfl) (by show _=mR [0,1,2,3,4,6] [.box [.ref 1,iA (j+2)],dY b,dI vs,dI ars,dT bd,.tree (D.exprs (t7 b (vs.length:Int) j).kids)];have e1:(j+2:Int)=(j+1+1):=al;rw[e1,cv9 al]<;>rfl)
 refine wp_seq (j7 G (x6 2 [0,1,15] (j8.lend (Z6 b (j+1) atL (by simp[h0]) al al) [.no,.no,.row 3])) (rg 7) [.box [.ref 1,iA (j+1+1)],dY b,dI vs,dI ars,dT bd,.box (pL 2),.box [iA 1,iA (nm b (j+1) atL),.v (.slice none 0 0)]] [(0,.ptr 0 0),(3,.ptr 5 0),(4,.ptr 6 0)] fun G=>b6 (wp_ret (l7 ?_)));obtain⟨ρ,G⟩:=G.nilT 7 (.exprs []) [.box [.ref 1,iA (j+1+1)],dY b,dI vs,dI ars,dT bd,.box (pL 2),.box [iA 1,iA (nm b (j+1) atL),.tref 7]] [(0,.ptr 0 0),(3,.ptr 5 0),(4,.ptr 6 0)];exact T9 (.agg [iA 1,iA (nm b (j+1) atL),.tref 7]) G [0,1,2,3,4,7] (by show _=AV.ren (nth [0,1,2,3,4,7]) (.agg [iA (t7 b (vs.length:Int) j).kind,iA (t7 b (vs.length:Int) j).value,.tref 5]);rw[cw0 al]<;>rfl) (by show _=mR [0,1,2,3,4,7] [.box [.ref 1,iA (j+2)],dY b,dI vs,dI ars,dT bd,.tree (D.exprs (t7 b (vs.length:Int) j).kids)];have e1:(j+2:Int)=(j+1+1):=al;rw[e1,cw0 al]<;>rfl)
theorem bq4(vs ars:List Int)(bd:List c6)(e:c7):j8.ok Tryz.prog (P1 193 [pA 0,eA e 3] ([dI vs,dI ars,dT bd]++eS e) (bA (x5 vs.length ars.length e))):=M8 ⟨vs,ars,bd⟩ e
abbrev drC(b:List UInt8)(vs ars:List Int)(bd:List c6)(d:Nat)(j n:Int):j8:=⟨197,[.ptr 0 0,pA 2,iA n],dwS b j vs ars bd,dwS b (Q2 b vs.length ars.length d j).2 vs ars bd++exO (Q2 b vs.length ars.length d j).1,exA (Q2 b vs.length ars.length d j).1 5⟩
section
variable{b:List UInt8}{nv na:Int}{d:Nat}{j:Int}
theorem ct7(h:d<2):Q2 b nv na d j=(t7 b nv j,j+2):=by
 match d,h with
 |0,_=>rfl
 |1,_=>simp[Q2]
theorem cg5(h:0<d)(h1:pk b j 4=0):Q2 b nv na (d+1) j=(t7 b nv (j+1),j+3):=by rw[Q2,if_neg al,if_pos h1]
theorem b32(h:0<d)(h1:¬pk b j 4=0)(h2:nm b (j+1) R6=3)(h3:na=0):Q2 b nv na (d+1) j=(t7 b nv (j+2),j+4):=by rw[Q2,if_neg al,if_neg h1,if_pos h2,if_pos h3]
theorem b31(h:0<d)(h1:¬pk b j 4=0)(h2:nm b (j+1) R6=3)(h3:¬na=0):Q2 b nv na (d+1) j=(⟨3,pk b (j+2) na,[t7 b nv (j+3)]⟩,j+5):=by rw[Q2,if_neg al,if_neg h1,if_pos h2,if_neg h3]
abbrev drK(b:List UInt8)(nv na:Int)(d:Nat)(j:Int)(k:Nat):List c7×Int:=K3 (Q2 b nv na d) k (j+2)
theorem ct6(h:0<d)(h1:¬pk b j 4=0)(h2:¬nm b (j+1) R6=3){m:Int}(h3:0<=m)(h4:¬m>0):Q2 b nv na (d+1) j=(⟨nm b (j+1) R6,0,(drK b nv na d j (x8 (nm b (j+1) R6)-m).toNat).1⟩,(drK b nv na d j (x8 (nm b (j+1) R6)-m).toNat).2):=by
 have e:m=0:=al
 rw[e,Int.sub_zero,Q2,if_neg al,if_neg h1,if_neg h2]
theorem bz2{x m:Int}(h3:m>0)(h4:m<=x):drK b nv na d j (x-(m-1)).toNat=((drK b nv na d j (x-m).toNat).1++[(Q2 b nv na d (drK b nv na d j (x-m).toNat).2).1],(Q2 b nv na d (drK b nv na d j (x-m).toNat).2).2):=by
 rw[show(x-(m-1)).toNat=(x-m).toNat+1 by omega];rfl
theorem cw2(r0:0<=j)(r1:j<=900000000):0<=x8 (nm b (j+1) R6)/\x8 (nm b (j+1) R6)<=3:=by
 have h:=at4 b (k:=j+1) (l:=R6) al al an
 simp only[cG2,cH6,List.not_mem_nil,or_false]at h
 rcases h with h|h|h|h|h|h|h|h|h<;>rw[h]<;>decide
theorem ct9(r0:0<=j){k:Nat}(hk:k<=3):j+2<=(drK b nv na d j k).2/\(drK b nv na d j k).2<=j+2+3*cE d:=by
 have hc:=aR1 d
 have h:=bS5 (f:=Q2 b nv na d) (c:=cE d) (m:=3) al k (j+2) hk fun i _ _=>bf9 b nv na d i
 have h4:(k:Int)*cE d<=3*cE d:=cI6 al al
 unfold drK;omega
theorem ct8{x m:Int}(r0:0<=j)(h3:m>0)(h4:m<=x)(h5:x<=3)(r1:j+cE (d+1)<=800000000):(drK b nv na d j (x-m).toNat).2+cE d<=800000000:=by
 have hc:=aR1 d
 have hce:cE (d+1)=5+3*cE d:=rfl
 have hm:(x-m).toNat<=2:=al
 have h:=bS5 (f:=Q2 b nv na d) (c:=cE d) (m:=2) al (x-m).toNat (j+2) hm fun i _ _=>bf9 b nv na d i
 have h4:((x-m).toNat:Int)*cE d<=2*cE d:=cI6 al al
 unfold drK;omega
end
theorem bv4(b:List UInt8)(vs ars:List Int)(bd:List c6)(d:Nat)(hd:d<2)(j n:Int)(hn:n=d)(r0:0<=j)(r1:j<=900000000):j8.ok Tryz.prog (drC b vs ars bd d j n):=by
 refine D9 62 Tryz.func197 [.box [.ref 1,iA j],dY b,dI vs,dI ars,dT bd] [(0,.ptr 0 0),(1,pA 2),(2,iA n)] fun G=>?_;refine wp_seq (j7 G f8 [0,1,2,3,4,5,13] [.box [.ref 1,iA j],dY b,dI vs,dI ars,dT bd,.box (pL 2),.box [iA 0,iA 0,.v (.slice none 0 0)]] [(0,.ptr 0 0),(2,iA n),(4,.ptr 5 0),(6,.ptr 6 0)] fun G=>b6 (wp_seq (wp_seq ?_)));cases h0:(decide (n<2))
 ·have q0:=dFf h0;exact False.elim al
 have q0:=dTt h0;refine l6 G (H2 (fc h0 fz) [(3,0),(4,0),(5,0),(1006,0)]) [(16,bA true)] fun G=>b6 (rT G true aj (wp_seq (j7 G (x6 2 (rg 5) (aC1 b j vs ars bd ai ai)) [0,1,2,3,4,5,6,23] [.box [.ref 1,iA (j+2)],dY b,dI vs,dI ars,dT bd,.box (pL 2),.box [iA (t7 b (vs.length:Int) j).kind,iA (t7 b (vs.length:Int) j).value,.tref 7],.tree (D.exprs (t7 b (vs.length:Int) j).kids)] [(0,.ptr 0 0),(2,iA n),(4,.ptr 5 0),(6,.ptr 6 0)] fun G=>b6 (wp_ret (l7 ?_)))));exact T9 (.agg [iA (t7 b (vs.length:Int) j).kind,iA (t7 b (vs.length:Int) j).value,.tref 7]) G [0,1,2,3,4,7] (by show _=AV.ren (nth [0,1,2,3,4,7]) (.agg [iA (Q2 b (vs.length:Int) (ars.length:Int) d j).fst.kind,iA (Q2 b (vs.length:Int) (ars.length:Int) d j).fst.value,.tref 5]);rw[ct7 hd]<;>rfl) (by show _=mR [0,1,2,3,4,7] [.box [.ref 1,iA (Q2 b (vs.length:Int) (ars.length:Int) d j).snd],dY b,dI vs,dI ars,dT bd,.tree (D.exprs (Q2 b (vs.length:Int) (ars.length:Int) d j).fst.kids)];rw[ct7 hd]<;>rfl)
abbrev aJ9(b:List UInt8)(vs:List Int)(ars:List Int)(d:Nat)(j:Int)(k:Int):=drK b (vs.length:Int) (ars.length:Int) d j (x8 (nm b (j+1) R6)-k).toNat
abbrev aD3(b:List UInt8)(vs:List Int)(ars:List Int)(d:Nat)(j:Int):AV:=(.agg [iA (Q2 b (vs.length:Int) (ars.length:Int) (d+1) j).fst.kind,iA (Q2 b (vs.length:Int) (ars.length:Int) (d+1) j).fst.value,.tref 5])
abbrev aD2(b:List UInt8)(vs:List Int)(ars:List Int)(bd:List c6)(d:Nat)(j:Int):List It:=[.box [.ref 1,iA (Q2 b (vs.length:Int) (ars.length:Int) (d+1) j).snd],dY b,dI vs,dI ars,dT bd,.tree (D.exprs (Q2 b (vs.length:Int) (ars.length:Int) (d+1) j).fst.kids)]
abbrev aU4:It:=.box [iA 0,iA 0,.v (.slice none 0 0)]
abbrev ai5(n:Int)(r0:List (Nat×AV)):List (Nat×AV):=(0,.ptr 0 0)::(2,iA n)::(4,.ptr 5 0)::(6,.ptr 6 0)::r0
theorem bZ5(b:List UInt8)(vs ars:List Int)(bd:List c6)(d:Nat)(hd:0<d)(hd2:d<=100)(ih:∀(j n:Int),n=d->0<=j->j+cE d<=800000000->j8.ok Tryz.prog (drC b vs ars bd d j n))(j n:Int)(hn:n=((d+1:Nat):Int))(r0:0<=j)(r1:j+cE (d+1)<=800000000):j8.ok Tryz.prog (drC b vs ars bd (d+1) j n):=by
  refine D9 62 Tryz.func197 [.box [.ref 1,iA j],dY b,dI vs,dI ars,dT bd] [(0,.ptr 0 0),(1,pA 2),(2,iA n)] fun G=>?_;have hc:=aR1 d;have hce:cE (d+1)=5+3*cE d:=rfl;have har:=cw2 (b:=b) (j:=j) r0 al;refine wp_seq (j7 G f8 [0,1,2,3,4,5,13] [.box [.ref 1,iA j],dY b,dI vs,dI ars,dT bd,.box (pL 2),aU4] (ai5 n []) fun G=>b6 (wp_seq (wp_seq ?_)));cases h0:(decide (n<2))
  ·
   have q0:=dFf h0;refine j7 G (I7 (y7 4 [0,1] (G0 b j 4 ai al) I6) (fc h0 fz) [(3,0),(4,0),(5,0),(1006,0)]) (rg 7) [.box [.ref 1,iA (j+1)],dY b,dI vs,dI ars,dT bd,.box (pL 2),aU4] (ai5 n [(16,bA (pk b j 4==0))]) fun G=>b6 (V3 G (fun h1 q1=>?_) fun h1 q1=>?_)
   ·
    refine wp_skip (b6 (wp_seq (j7 G (x6 2 [0,1,15] (j8.lend (Z6 b (j+1) R6 (by simp[h0,h1]) al al) [.no,.no,.row 3])) (rg 7) [.box [.ref 1,iA (j+1+1)],dY b,dI vs,dI ars,dT bd,.box (pL 2),aU4] (ai5 n [(7,iA (nm b (j+1) R6))]) fun G=>b6 (wp_seq (wp_seq (l6 G f8 [(24,bA (nm b (j+1) R6==3))] fun G=>b6 (V3 G (fun h2 q2=>?_) fun h2 q2=>?_)))))))
    ·
     refine wp_skip (b6 (wp_seq (j7 G f8 [0,1,2,3,4,5,6,23] [.box [.ref 1,iA (j+1+1)],dY b,dI vs,dI ars,dT bd,.box (pL 2),aU4,.box [iA (nm b (j+1) R6),iA 0,.v (.slice none 0 0)]] (ai5 n [(7,iA (nm b (j+1) R6)),(8,.ptr 7 0)]) fun G=>b6 (wp_seq (wp_seq (C6 G (x6 1 [] (ap7 (nm b (j+1) R6))) (ai5 n [(8,.ptr 7 0),(9,iA (x8 (nm b (j+1) R6)))]) fun G=>b6 (wp_block ?_)))))));obtain⟨ρ,G⟩:=G.nilT 8 (.exprs []) [.box [.ref 1,iA (j+1+1)],dY b,dI vs,dI ars,dT bd,.box (pL 2),.box [iA 0,iA 0,.v (.slice none 0 0)],.box [iA (nm b (j+1) R6),iA 0,.tref 8]] (ai5 n [(8,.ptr 7 0),(9,iA (x8 (nm b (j+1) R6)))]);replace G:=G.as [.box [.ref 1,iA (drK b (vs.length:Int) (ars.length:Int) d j (x8 (nm b (j+1) R6)-x8 (nm b (j+1) R6)).toNat).snd],dY b,dI vs,dI ars,dT bd,.box (pL 2),.box [iA 0,iA 0,.v (.slice none 0 0)],.box [iA (nm b (j+1) R6),iA 0,.tref 8],.tree (D.exprs (drK b (vs.length:Int) (ars.length:Int) d j (x8 (nm b (j+1) R6)-x8 (nm b (j+1) R6)).toNat).fst)] (ai5 n [(8,.ptr 7 0),(9,iA (x8 (nm b (j+1) R6)))]) (by have e1:((drK b (vs.length:Int) (ars.length:Int) d j (x8 (nm b (j+1) R6)-x8 (nm b (j+1) R6)).toNat).snd:Int)=(j+1+1):=(by rw[Int.sub_self];show j+2=j+1+1;omega);have e2:((drK b (vs.length:Int) (ars.length:Int) d j (x8 (nm b (j+1) R6)-x8 (nm b (j+1) R6)).toNat).fst:List c7)=([]):=(by rw[Int.sub_self];rfl);(first|rw[e1,e2]|simp only[e1,e2])<;>rfl) aj;refine t9 (κ:=Int) (fun k=>0<=k/\k<=x8 (nm b (j+1) R6)) (fun k=>k.toNat) (fun k=>[.box [.ref 1,iA (drK b vs.length ars.length d j (x8 (nm b (j+1) R6)-k).toNat).2],dY b,dI vs,dI ars,dT bd,.box (pL 2),.box [iA 0,iA 0,.v (.slice none 0 0)],.box [iA (nm b (j+1) R6),iA 0,.tref 8],.tree (.exprs (drK b vs.length ars.length d j (x8 (nm b (j+1) R6)-k).toNat).1)]) (fun k=>[(0,.ptr 0 0),(2,iA n),(4,.ptr 5 0),(6,.ptr 6 0),(8,.ptr 7 0),(9,iA k)]) (x8 (nm b (j+1) R6)) al (x7.at G _ _) ?_;clear G;intro k ρ a w hp G;replace G:=x7.at G [.box [.ref 1,iA (aJ9 b vs ars d j k).snd],dY b,dI vs,dI ars,dT bd,.box (pL 2),aU4,.box [iA (nm b (j+1) R6),iA 0,.tref 8],.tree (D.exprs (aJ9 b vs ars d j k).fst)] (ai5 n [(8,.ptr 7 0),(9,iA k)]);have hkb:=ct9 (b:=b) (nv:=vs.length) (na:=ars.length) (d:=d) (j:=j) r0 (k:=(x8 (nm b (j+1) R6)-k).toNat) al;have hkl:(drK b vs.length ars.length d j (x8 (nm b (j+1) R6)-k).toNat).1.length=(x8 (nm b (j+1) R6)-k).toNat:=a50 _ _ _;refine wp_seq (wp_seq (l6 G f8 [(48,bA (decide (k>0)))] fun G=>b6 (rcD G (fun h4 q4=>?_) fun h4 q4=>?_)))
     · refine wp_exit (t4 (t4 (t3 (b6 (wp_seq (j7 G f8 [0,1,2,3,4,6,8] [.box [.ref 1,iA (aJ9 b vs ars d j k).snd],dY b,dI vs,dI ars,dT bd,.box [iA (nm b (j+1) R6),iA 0,.tref 6],.tree (D.exprs (aJ9 b vs ars d j k).fst)] [(6,.ptr 5 0)] fun G=>b6 (wp_ret ?_)))))));exact T9 (.agg [iA (nm b (j+1) R6),iA 0,.tref 6]) G [0,1,2,3,4,6] (by show _=AV.ren (nth [0,1,2,3,4,6]) (aD3 b vs ars d j);unfold aD3;rw[ct6 (m:=k) hd al al al al]<;>rfl) (by show _=mR [0,1,2,3,4,6] (aD2 b vs ars bd d j);unfold aD2;rw[ct6 (m:=k) hd al al al al]<;>rfl)
     refine wp_skip (b6 (wp_seq (wp_block (K7 G (x6 6 (rg 5) (ih ((drK b (vs.length:Int) (ars.length:Int) d j (x8 (nm b (j+1) R6)-k).toNat).snd) (n-1) al al (ct8 al al al al r1))) [0,1,0,0,0,16,60,124,255,511,1023] [0,1,2,3,4,5,6,7,73] [.box [.ref 1,iA (Q2 b (vs.length:Int) (ars.length:Int) d (aJ9 b vs ars d j k).snd).snd],dY b,dI vs,dI ars,dT bd,.box (pL 2),aU4,.box [iA (nm b (j+1) R6),iA 0,.tref 8],.tree (D.exprs ((aJ9 b vs ars d j k).fst++[A0 (Q2 b (vs.length:Int) (ars.length:Int) d (aJ9 b vs ars d j k).snd).fst]))] (ai5 n [(8,.ptr 7 0),(9,iA k)]) ((wO (n-1))::(aP ((drK b (vs.length:Int) (ars.length:Int) d j (x8 (nm b (j+1) R6)-k).toNat).fst.length+1) 40 [])) ⟨oW al,(aK al cF1)⟩ fun G=>m8 (b6 (H0 G f8 [(9,iA (k-1))] [wO (k-1)] (o1 al) fun G=>b6 ?_))))));exact P7 G (k-1) al al (rg 9) (by have e1:((drK b (vs.length:Int) (ars.length:Int) d j (x8 (nm b (j+1) R6)-(k-1)).toNat).snd:Int)=((Q2 b (vs.length:Int) (ars.length:Int) d (drK b (vs.length:Int) (ars.length:Int) d j (x8 (nm b (j+1) R6)-k).toNat).snd).snd):=(by rw[bz2 al al];done);have e2:((drK b (vs.length:Int) (ars.length:Int) d j (x8 (nm b (j+1) R6)-(k-1)).toNat).fst:List c7)=((drK b (vs.length:Int) (ars.length:Int) d j (x8 (nm b (j+1) R6)-k).toNat).fst++[A0 (Q2 b (vs.length:Int) (ars.length:Int) d (drK b (vs.length:Int) (ars.length:Int) d j (x8 (nm b (j+1) R6)-k).toNat).snd).fst]):=(by rw[bz2 al al];(simp only[c7.eta];done));(first|rw[e1,e2]|simp only[e1,e2])<;>rfl)
    refine wp_seq (wp_seq (l6 G f8 [(28,bA ((ars.length:Int)==0))] fun G=>b6 (V3 G (fun h3 q3=>?_) fun h3 q3=>?_)))
    · refine wp_skip (b6 (wp_seq (af5 G (I7 (y7 5 [0,1] (G0 b (j+1+1) ((ars.length:Int)) al al) (y7 8 (rg 5) (aC1 b (j+1+1+1) vs ars bd al al) I6)) fz []) [0,0,0,4,12,30,0,0,254,510,1023,2047] [0,1,2,3,4,5,6,79] [.box [.ref 1,iA (j+1+1+1+2)],dY b,dI vs,dI ars,dT bd,.box (pL 2),.box [iA (nm b (j+1) R6),iA (pk b (j+1+1) (ars.length:Int)),.tref 7],.tree (D.exprs [A0 (t7 b (vs.length:Int) (j+1+1+1))])] (ai5 n [(7,iA (nm b (j+1) R6))]) fun G=>b6 (wp_ret (l7 ?_)))));exact T9 (.agg [iA (nm b (j+1) R6),iA (pk b (j+1+1) (ars.length:Int)),.tref 7]) G [0,1,2,3,4,7] (by show _=AV.ren (nth [0,1,2,3,4,7]) (aD3 b vs ars d j);unfold aD3;have e1:((Q2 b (vs.length:Int) (ars.length:Int) (d+1) j).fst.kind:Int)=(nm b (j+1) R6):=(by rw[b31 hd al al al];(simp only[Int.add_assoc,Int.reduceAdd,c7.eta,c7.kids,c7.kind,c7.value];omega));have e2:((Q2 b (vs.length:Int) (ars.length:Int) (d+1) j).fst.value:Int)=(pk b (j+1+1) (ars.length:Int)):=(by rw[b31 hd al al al];(simp only[Int.add_assoc,Int.reduceAdd,c7.eta,c7.kids,c7.kind,c7.value];done));(first|rw[e1,e2]|simp only[e1,e2])<;>rfl) (by show _=mR [0,1,2,3,4,7] (aD2 b vs ars bd d j);unfold aD2;have e1:((Q2 b (vs.length:Int) (ars.length:Int) (d+1) j).snd:Int)=(j+1+1+1+2):=(by rw[b31 hd al al al];(simp only[Int.add_assoc,Int.reduceAdd,c7.eta,c7.kids,c7.kind,c7.value];done));have e2:((Q2 b (vs.length:Int) (ars.length:Int) (d+1) j).fst.kids:List c7)=([A0 (t7 b (vs.length:Int) (j+1+1+1))]):=(by rw[b31 hd al al al];show [_]=_;simp only[Int.add_assoc,Int.reduceAdd,c7.eta];done);(first|rw[e1,e2]|simp only[e1,e2])<;>rfl)
    refine wp_seq (j7 G (x6 2 (rg 5) (aC1 b (j+1+1) vs ars bd al al)) [0,1,2,3,4,5,6,23] [.box [.ref 1,iA (j+1+1+2)],dY b,dI vs,dI ars,dT bd,.box (pL 2),.box [iA (t7 b (vs.length:Int) (j+1+1)).kind,iA (t7 b (vs.length:Int) (j+1+1)).value,.tref 7],.tree (D.exprs (t7 b (vs.length:Int) (j+1+1)).kids)] (ai5 n [(7,iA (nm b (j+1) R6))]) fun G=>b6 (wp_ret (l7 (l7 ?_))));exact T9 (.agg [iA (t7 b (vs.length:Int) (j+1+1)).kind,iA (t7 b (vs.length:Int) (j+1+1)).value,.tref 7]) G [0,1,2,3,4,7] (by show _=AV.ren (nth [0,1,2,3,4,7]) (aD3 b vs ars d j);unfold aD3;have e1:((Q2 b (vs.length:Int) (ars.length:Int) (d+1) j).fst.kind:Int)=((t7 b (vs.length:Int) (j+1+1)).kind):=(by rw[b32 hd al al al];(simp only[Int.add_assoc,Int.reduceAdd,c7.eta,c7.kids,c7.kind,c7.value];done));have e2:((Q2 b (vs.length:Int) (ars.length:Int) (d+1) j).fst.value:Int)=((t7 b (vs.length:Int) (j+1+1)).value):=(by rw[b32 hd al al al];(simp only[Int.add_assoc,Int.reduceAdd,c7.eta,c7.kids,c7.kind,c7.value];done));(first|rw[e1,e2]|simp only[e1,e2])<;>rfl) (by show _=mR [0,1,2,3,4,7] (aD2 b vs ars bd d j);unfold aD2;have e1:((Q2 b (vs.length:Int) (ars.length:Int) (d+1) j).snd:Int)=(j+1+1+2):=(by rw[b32 hd al al al];(simp only[Int.add_assoc,Int.reduceAdd,c7.eta,c7.kids,c7.kind,c7.value];done));have e2:((Q2 b (vs.length:Int) (ars.length:Int) (d+1) j).fst:c7)=(t7 b (vs.length:Int) (j+1+1)):=(by rw[b32 hd al al al];(simp only[Int.add_assoc,Int.reduceAdd,c7.eta,c7.kids,c7.kind,c7.value];done));(first|rw[e1,e2]|simp only[e1,e2])<;>rfl)
   refine wp_seq (j7 G (x6 2 (rg 5) (aC1 b (j+1) vs ars bd al al)) [0,1,2,3,4,5,6,23] [.box [.ref 1,iA (j+1+2)],dY b,dI vs,dI ars,dT bd,.box (pL 2),.box [iA (t7 b (vs.length:Int) (j+1)).kind,iA (t7 b (vs.length:Int) (j+1)).value,.tref 7],.tree (D.exprs (t7 b (vs.length:Int) (j+1)).kids)] (ai5 n []) fun G=>b6 (wp_ret (l7 ?_)));exact T9 (.agg [iA (t7 b (vs.length:Int) (j+1)).kind,iA (t7 b (vs.length:Int) (j+1)).value,.tref 7]) G [0,1,2,3,4,7] (by show _=AV.ren (nth [0,1,2,3,4,7]) (aD3 b vs ars d j);unfold aD3;rw[cg5 hd al]<;>rfl) (by show _=mR [0,1,2,3,4,7] (aD2 b vs ars bd d j);unfold aD2;have e1:((Q2 b (vs.length:Int) (ars.length:Int) (d+1) j).snd:Int)=(j+1+2):=(by rw[cg5 hd al];(simp only[Int.add_assoc,Int.reduceAdd,c7.eta,c7.kids,c7.kind,c7.value];done));rw[e1,cg5 hd al]<;>rfl)
  have q0:=dTt h0;exact False.elim al
theorem bV4(b:List UInt8)(vs ars:List Int)(bd:List c6):∀(d:Nat) (j n:Int),d<=100->n=d->0<=j->j+cE d<=800000000->j8.ok Tryz.prog (drC b vs ars bd d j n)
 |0,j,n,_,hn,r0,r1=>bv4 b vs ars bd 0 al j n hn r0 (by have:=aR1 0;omega)
 |1,j,n,_,hn,r0,r1=>bv4 b vs ars bd 1 al j n hn r0 (by have:=aR1 1;omega)
 |d+2,j,n,hd,hn,r0,r1=>bZ5 b vs ars bd (d+1) al al (fun j n=>bV4 b vs ars bd (d+1) j n al) j n hn r0 r1
abbrev smC(b:List UInt8)(vs ars:List Int)(bd:List c6)(j:Int):j8:=⟨189,[.ptr 0 0,pA 2],dwS b j vs ars bd,dwS b (A1 b vs.length ars.length j).2 vs ars bd++exO (A1 b vs.length ars.length j).1,exA (A1 b vs.length ars.length j).1 5⟩
section
variable{b:List UInt8}{nv na:Nat}{j:Int}
theorem cl9(h:x5 nv na (Q2 b nv na (nm b j dpL).toNat (j+1)).1=true):A1 b nv na j=Q2 b nv na (nm b j dpL).toNat (j+1):=if_pos h
theorem cl8(h:x5 nv na (Q2 b nv na (nm b j dpL).toNat (j+1)).1=false):A1 b nv na j=(t7 b nv (Q2 b nv na (nm b j dpL).toNat (j+1)).2,(Q2 b nv na (nm b j dpL).toNat (j+1)).2+2):=if_neg (by rw[h];decide)
theorem cy2(r0:0<=j)(r1:j<=700000000):cE (nm b j dpL).toNat<=364:=cE4 (dp4 b r0 al).2.2
end
abbrev af0(b:List UInt8)(vs:List Int)(ars:List Int)(j:Int):=Q2 b (vs.length:Int) (ars.length:Int) (nm b j dpL).toNat (j+1)
theorem ai0(b:List UInt8)(vs ars:List Int)(bd:List c6)(j:Int)(r0:0<=j)(r1:j<=700000000):j8.ok Tryz.prog (smC b vs ars bd j):=by
 have hdr:=fun(i n:Int)=>bV4 b vs ars bd (nm b j dpL).toNat i n (cG3 (dp4 b r0 al).2.2 al)
 refine D9 19 Tryz.func189 [.box [.ref 1,iA j],dY b,dI vs,dI ars,dT bd] [(0,.ptr 0 0),(1,pA 2)] fun G=>?_;have hd4:=cy2 (b:=b) r0 r1;have hdb:=bf9 b vs.length ars.length (nm b j dpL).toNat (j+1);refine wp_seq (j7 G f8 [0,1,2,3,4,5,13] [.box [.ref 1,iA j],dY b,dI vs,dI ars,dT bd,.box (pL 2),.box [iA 0,iA 0,.v (.slice none 0 0)]] [(0,.ptr 0 0),(3,.ptr 5 0),(4,.ptr 6 0)] fun G=>b6 (wp_seq (af5 G (I7 (y7 4 [0,1,31] (j8.lend (Z6 b j dpL (List.cons_ne_nil _ _) ai al) [.no,.no,.row 3]) (y7 5 (rg 5) (hdr (j+1) (nm b j dpL) (cg6 b al al) al al) I6)) fz []) [0,0,0,0,12,31,0,127] [0,1,2,3,4,5,6,47,55] [.box [.ref 1,iA (af0 b vs ars j).snd],dY b,dI vs,dI ars,dT bd,.box (pL 2),.box [iA 0,iA 0,.v (.slice none 0 0)],.tree (D.exprs (af0 b vs ars j).fst.kids),.box [iA (af0 b vs ars j).fst.kind,iA (af0 b vs ars j).fst.value,.tref 7]] [(0,.ptr 0 0),(3,.ptr 5 0),(4,.ptr 6 0),(5,.ptr 8 0)] fun G=>b6 (wp_seq (wp_seq (l6 G (x6 2 [2,3,4,7] (j8.lend (bq4 vs ars bd ((Q2 b (vs.length:Int) (ars.length:Int) (nm b j dpL).toNat (j+1)).fst)) [.no,.no,.no,.tree])) [(14,bA (x5 vs.length ars.length (af0 b vs ars j).fst))] fun G=>b6 (rcB (b:=x5 vs.length ars.length (Q2 b (vs.length:Int) (ars.length:Int) (nm b j dpL).toNat (j+1)).fst) G (fun h0=>?_) fun h0=>?_)))))))
 ·refine wp_skip (b6 (wp_seq (j7 G (x6 2 (rg 5) (aC1 b ((Q2 b (vs.length:Int) (ars.length:Int) (nm b j dpL).toNat (j+1)).snd) vs ars bd al al)) [0,1,2,3,4,6,25] [.box [.ref 1,iA ((af0 b vs ars j).snd+2)],dY b,dI vs,dI ars,dT bd,.box [iA (t7 b (vs.length:Int) (af0 b vs ars j).snd).kind,iA (t7 b (vs.length:Int) (af0 b vs ars j).snd).value,.tref 6],.tree (D.exprs (t7 b (vs.length:Int) (af0 b vs ars j).snd).kids)] [(4,.ptr 5 0)] fun G=>b6 (wp_ret ?_))));exact T9 (.agg [iA (t7 b (vs.length:Int) (Q2 b (vs.length:Int) (ars.length:Int) (nm b j dpL).toNat (j+1)).snd).kind,iA (t7 b (vs.length:Int) (Q2 b (vs.length:Int) (ars.length:Int) (nm b j dpL).toNat (j+1)).snd).value,.tref 6]) G [0,1,2,3,4,6] (by show _=AV.ren (nth [0,1,2,3,4,6]) (.agg [iA (A1 b vs.length ars.length j).fst.kind,iA (A1 b vs.length ars.length j).fst.value,.tref 5]);rw[cl8 ab]<;>rfl) (by show _=mR [0,1,2,3,4,6] [.box [.ref 1,iA (A1 b vs.length ars.length j).snd],dY b,dI vs,dI ars,dT bd,.tree (D.exprs (A1 b vs.length ars.length j).fst.kids)];rw[cl8 ab]<;>rfl)
 refine wp_seq (j7 G f8 (rg 8) [.box [.ref 1,iA (af0 b vs ars j).snd],dY b,dI vs,dI ars,dT bd,.box (pL 2),.box [iA (af0 b vs ars j).fst.kind,iA (af0 b vs ars j).fst.value,.tref 7],.tree (D.exprs (af0 b vs ars j).fst.kids)] [(0,.ptr 0 0),(3,.ptr 5 0),(4,.ptr 6 0)] fun G=>b6 (wp_ret (l7 ?_)));exact T9 (.agg [iA (Q2 b (vs.length:Int) (ars.length:Int) (nm b j dpL).toNat (j+1)).fst.kind,iA (Q2 b (vs.length:Int) (ars.length:Int) (nm b j dpL).toNat (j+1)).fst.value,.tref 7]) G [0,1,2,3,4,7] (by show _=AV.ren (nth [0,1,2,3,4,7]) (.agg [iA (A1 b vs.length ars.length j).fst.kind,iA (A1 b vs.length ars.length j).fst.value,.tref 5]);rw[cl9 ab]<;>rfl) (by show _=mR [0,1,2,3,4,7] [.box [.ref 1,iA (A1 b vs.length ars.length j).snd],dY b,dI vs,dI ars,dT bd,.tree (D.exprs (A1 b vs.length ars.length j).fst.kids)];rw[cl9 ab]<;>rfl)
abbrev stO(s:c6):List It:=[.tree (.exprs s.index.kids),.tree (.exprs s.value.kids),.tree (.stmts s.body),.tree (.stmts s.els)]
abbrev stA(s:c6)(r:Nat):AV:=.agg [iA s.kind,iA s.target,iA s.index.kind,iA s.index.value,.tref r,iA s.value.kind,iA s.value.value,.tref (r+1),iA s.count,.tref (r+2),.tref (r+3)]
abbrev dsC(b:List UInt8)(vs ars:List Int)(bd:List c6)(d:Nat)(j n:Int):j8:=⟨171,[.ptr 0 0,pA 2,iA n],dwS b j vs ars bd,dwS b (E6 b vs.length ars.length d j).2 vs ars bd++stO (E6 b vs.length ars.length d j).1,stA (E6 b vs.length ars.length d j).1 5⟩
abbrev dbC(b:List UInt8)(vs ars:List Int)(bd:List c6)(d:Nat)(m:Nat)(j n c:Int):j8:=⟨126,[.ptr 0 0,pA 2,iA n,iA c],dwS b j vs ars bd,dwS b (K3 (E6 b vs.length ars.length d) m j).2 vs ars bd++[.tree (.stmts (K3 (E6 b vs.length ars.length d) m j).1)],.tref 5⟩
section
variable{b:List UInt8}{nv na d:Nat}{j:Int}
theorem bK1(h:nm b j O8=2)(h1:0<(na:Int)):E6 b nv na d j=soS b nv na (j+1):=by
 cases d<;>(rw[E6,if_pos ⟨h,al⟩])
theorem cl7(h:nm b j O8=3)(h1:0<d):E6 b nv na (d+1) j=ifS b nv na (E6 b nv na d) (j+1):=by
 rw[E6,if_neg al,if_pos ⟨h,al⟩]
theorem cl6(h:nm b j O8=4)(h1:0<d):E6 b nv na (d+1) j=rpS b (E6 b nv na d) (j+1):=by
 rw[E6,if_neg al,if_neg al,if_pos ⟨h,al⟩]
theorem ak9(h:¬(nm b j O8=2/\0<(na:Int)))(h1:d<2\/(¬nm b j O8=3/\¬nm b j O8=4)):E6 b nv na d j=dfS b nv na (nm b j O8) (j+1):=by
 match d,h1 with
 |0,_=>rw[E6,if_neg al]
 |d+1,h1=>rw[E6,if_neg al,if_neg al,if_neg al]
theorem cg7{kd:Int}(h:kd=5):dfS b nv na kd j=(⟨5,pk b j nv,noE,(A1 b nv na (j+1)).1,0,[],[]⟩,(A1 b nv na (j+1)).2):=by rw[dfS,if_pos h]
theorem bg0{kd:Int}(h:¬kd=5):dfS b nv na kd j=(⟨1,pk b j nv,noE,(A1 b nv na (j+1)).1,0,[],[]⟩,(A1 b nv na (j+1)).2):=by rw[dfS,if_neg h]
end
section
variable(b:List UInt8){j:Int}
theorem cC3(r0:0<=j)(r1:j<=1000000000):0<=nm b j ibL/\nm b j ibL<=2:=aW2 b an bo0 r0 r1
theorem cC2(r0:0<=j)(r1:j<=1000000000):0<=nm b j ieL/\nm b j ieL<=2:=aW2 b an bn8 r0 r1
theorem cz4(r0:0<=j)(r1:j<=1000000000):0<=nm b j rbL/\nm b j rbL<=2:=aW2 b an bl7 r0 r1
theorem b48(d:Nat):(d=0/\cS (d-1)=402/\cS d<=2010)\/cS d=402+4*cS (d-1):=by
 cases d with
 |zero=>exact .inl ⟨rfl,rfl,ak⟩
 |succ d=>exact .inr rfl
end
section
variable{b:List UInt8}{nv na d:Nat}{j:Int}
theorem bk1(h:nm b j O8=3)(h1:1<d):E6 b nv na d j=ifS b nv na (E6 b nv na (d-1)) (j+1):=by
 match d,h1 with
 |d+1,h1=>exact cl7 h al
theorem bk0(h:nm b j O8=4)(h1:1<d):E6 b nv na d j=rpS b (E6 b nv na (d-1)) (j+1):=by
 match d,h1 with
 |d+1,h1=>exact cl6 h al
end
abbrev b58(b:List UInt8)(vs:List Int)(ars:List Int)(d:Nat)(j:Int)(k:Nat):=E6 b vs.length ars.length d (K3 (E6 b vs.length ars.length d) k j).snd
abbrev a75(n:Int)(c:Int)(r0:List (Nat×AV)):List (Nat×AV):=(0,.ptr 0 0)::(2,iA n)::(3,iA c)::(5,.ptr 5 0)::(8,.v (.slice none 0 0))::r0
theorem bZ6(b:List UInt8)(vs ars:List Int)(bd:List c6)(d m:Nat)(ih:∀(j n:Int),n=d->0<=j->j+cS d<=600000000->j8.ok Tryz.prog (dsC b vs ars bd d j n))(j n c:Int)(hn:n=d)(hm:c=m)(hm2:m<=4)(B:Int)(hB:(m:Int)*cS d<=B)(r0:0<=j)(r1:j+B<=600000000):j8.ok Tryz.prog (dbC b vs ars bd d m j n c):=by
 refine D9 25 Tryz.func126 [.box [.ref 1,iA j],dY b,dI vs,dI ars,dT bd] [(0,.ptr 0 0),(1,pA 2),(2,iA n),(3,iA c)] fun G=>?_;have hc:=aE7 d;refine wp_seq (j7 G f8 (rg 6) [.box [.ref 1,iA j],dY b,dI vs,dI ars,dT bd,.box (pL 2)] (a75 n c []) fun G=>b6 (wp_seq (j7 G f8 (rg 7) [.box [.ref 1,iA j],dY b,dI vs,dI ars,dT bd,.box (pL 2),.tree (D.stmts [])] (a75 n c [(9,.tref 6)]) fun G=>b6 (wp_seq (wp_seq (C6 G f8 (a75 n c [(9,.tref 6),(10,iA 0)]) fun G=>b6 (wp_block ?_)))))));refine t9 (κ:=Nat) (fun k=>k<=m) (fun k=>m-k) (fun k=>[.box [.ref 1,iA (K3 (E6 b vs.length ars.length d) k j).2],dY b,dI vs,dI ars,dT bd,.box (pL 2),.tree (.stmts (K3 (E6 b vs.length ars.length d) k j).1)]) (fun k=>[(0,.ptr 0 0),(2,iA n),(3,iA c),(5,.ptr 5 0),(8,.v (.slice none 0 0)),(9,.tref 6),(10,iA k)]) 0 al (x7.at G _ _) ?_;clear G;intro k ρ a w hp G;replace G:=x7.at G [.box [.ref 1,iA (K3 (E6 b vs.length ars.length d) k j).snd],dY b,dI vs,dI ars,dT bd,.box (pL 2),.tree (D.stmts (K3 (E6 b vs.length ars.length d) k j).fst)] (a75 n c [(9,.tref 6),(10,iA k)]);have hkb:=b88 b vs.length ars.length (k:=j) (i:=k) hB al r0 al;have hkl:(K3 (E6 b vs.length ars.length d) k j).1.length=k:=a50 _ _ _;refine wp_seq (wp_seq (l6 G f8 [(14,bA (decide ((k:Int)<c)))] fun G=>b6 (rcD G (fun h0 q0=>?_) fun h0 q0=>?_)))
 ·refine wp_exit (t4 (t4 (t3 (b6 (wp_seq (j7 G f8 [0,1,2,3,4,6] [.box [.ref 1,iA (K3 (E6 b vs.length ars.length d) k j).snd],dY b,dI vs,dI ars,dT bd,.tree (D.stmts (K3 (E6 b vs.length ars.length d) k j).fst)] [(8,.tref 5)] fun G=>b6 (wp_ret ?_)))))));exact G7 G (rg 6) (by show _=mR (rg 6) [.box [.ref 1,iA (K3 (E6 b vs.length ars.length d) m j).snd],dY b,dI vs,dI ars,dT bd,.tree (D.stmts (K3 (E6 b vs.length ars.length d) m j).fst)];rw[show m=k by omega]<;>rfl)
 refine wp_skip (b6 (wp_seq (wp_block (R9 G (x6 4 (rg 5) (ih ((K3 (E6 b vs.length ars.length d) k j).snd) n ai al (by have:=cv7 b vs.length ars.length (k:=j) (i:=k) hB al r0 al;omega))) [0,1,2,3,4,5,55] [.box [.ref 1,iA (b58 b vs ars d j k).snd],dY b,dI vs,dI ars,dT bd,.box (pL 2),.tree (D.stmts ((K3 (E6 b vs.length ars.length d) k j).fst++[qzS (b58 b vs ars d j k).fst]))] (a75 n c [(9,.tref 6),(10,iA k)]) (aP ((K3 (E6 b vs.length ars.length d) k j).fst.length+1) 152 []) (aK al cF1) fun G=>m8 (b6 (H0 G f8 [(10,iA ((k:Int)+1))] [wO ((k:Int)+1)] (o1 al) fun G=>b6 ?_))))));exact P7 G (k+1) al al (rg 7) (by have e1:((K3 (E6 b vs.length ars.length d) (k+1) j).fst:List c6)=((K3 (E6 b vs.length ars.length d) k j).fst++[qzS (E6 b vs.length ars.length d (K3 (E6 b vs.length ars.length d) k j).snd).fst]):=(by show _++[_]=_++[_];unfold qzS;rw[c7.eta,c7.eta,c6.eta];done);(first|rw[e1]|simp only[e1])<;>rfl)
abbrev aU3(b:List UInt8)(vs:List Int)(ars:List Int)(d:Nat)(j:Int):=K3 (E6 b vs.length ars.length (d-1)) (nm b (A1 b vs.length ars.length (j+1)).snd ibL).toNat ((A1 b vs.length ars.length (j+1)).snd+1)
abbrev bt3(b:List UInt8)(vs:List Int)(ars:List Int)(d:Nat)(j:Int):=K3 (E6 b vs.length ars.length (d-1)) (nm b (aU3 b vs ars d j).snd ieL).toNat ((aU3 b vs ars d j).snd+1)
abbrev Z0(b:List UInt8)(vs:List Int)(ars:List Int)(d:Nat)(j:Int):AV:=(.agg [iA (E6 b vs.length ars.length d j).fst.kind,iA (E6 b vs.length ars.length d j).fst.target,iA (E6 b vs.length ars.length d j).fst.index.kind,iA (E6 b vs.length ars.length d j).fst.index.value,.tref 5,iA (E6 b vs.length ars.length d j).fst.value.kind,iA (E6 b vs.length ars.length d j).fst.value.value,.tref 6,iA (E6 b vs.length ars.length d j).fst.count,.tref 7,.tref 8])
abbrev Y9(b:List UInt8)(vs:List Int)(ars:List Int)(bd:List c6)(d:Nat)(j:Int):List It:=[.box [.ref 1,iA (E6 b vs.length ars.length d j).snd],dY b,dI vs,dI ars,dT bd,.tree (D.exprs (E6 b vs.length ars.length d j).fst.index.kids),.tree (D.exprs (E6 b vs.length ars.length d j).fst.value.kids),.tree (D.stmts (E6 b vs.length ars.length d j).fst.body),.tree (D.stmts (E6 b vs.length ars.length d j).fst.els)]
abbrev av2:It:=.box [iA 0,iA 0,iA 0,iA 0,.v (.slice none 0 0),iA 0,iA 0,.v (.slice none 0 0),iA 0,.v (.slice none 0 0),.v (.slice none 0 0)]
abbrev bt2(b:List UInt8)(vs:List Int)(ars:List Int)(j:Int):It:=.box [iA 1,iA (pk b (j+1) (vs.length:Int)),iA 0,iA 0,.v (.slice none 0 0),iA (A1 b vs.length ars.length (j+1+1)).fst.kind,iA (A1 b vs.length ars.length (j+1+1)).fst.value,.tref 7,iA 0,.v (.slice none 0 0),.v (.slice none 0 0)]
abbrev bt1(b:List UInt8)(vs:List Int)(ars:List Int)(j:Int):It:=.box [iA 1,iA (pk b (j+1) (vs.length:Int)),iA 0,iA 0,.v (.slice none 0 0),iA (A1 b vs.length ars.length (j+1+1)).fst.kind,iA (A1 b vs.length ars.length (j+1+1)).fst.value,.tref 6,iA 0,.v (.slice none 0 0),.v (.slice none 0 0)]
abbrev bt0(b:List UInt8)(vs:List Int)(j:Int):It:=.box [iA 1,iA (pk b (j+1) (vs.length:Int)),iA 0,iA 0,.v (.slice none 0 0),iA 0,iA 0,.v (.slice none 0 0),iA 0,.v (.slice none 0 0),.v (.slice none 0 0)]
abbrev aq5(b:List UInt8)(vs:List Int)(ars:List Int)(j:Int):It:=.tree (D.exprs (A1 b vs.length ars.length (j+1+1)).fst.kids)
abbrev ae3(b:List UInt8)(vs:List Int)(ars:List Int)(j:Int):It:=.box [.ref 1,iA (A1 b vs.length ars.length (j+1+1)).snd]
abbrev aZ5:It:=.box [iA 1,iA 0,iA 0,iA 0,.v (.slice none 0 0),iA 0,iA 0,.v (.slice none 0 0),iA 0,.v (.slice none 0 0),.v (.slice none 0 0)]
abbrev bs1(b:List UInt8)(vs:List Int)(ars:List Int)(bd:List c6)(j:Int)(r0:List It):List It:=.box [.ref 1,iA (A1 b vs.length ars.length (j+1+1)).snd]::dY b::dI vs::dI ars::dT bd::.box [iA 1,iA (pk b (j+1) (vs.length:Int)),iA 0,iA 0,.tref 7,iA (A1 b vs.length ars.length (j+1+1)).fst.kind,iA (A1 b vs.length ars.length (j+1+1)).fst.value,.tref 6,iA 0,.tref 8,.tref 9]::.tree (D.exprs (A1 b vs.length ars.length (j+1+1)).fst.kids)::.tree (D.exprs [])::.tree (D.stmts [])::r0
abbrev bs0(b:List UInt8)(vs:List Int)(ars:List Int)(bd:List c6)(j:Int)(r0:List It):List It:=.box [.ref 1,iA (A1 b vs.length ars.length (j+1+1)).snd]::dY b::dI vs::dI ars::dT bd::.box [iA 1,iA (pk b (j+1) (vs.length:Int)),iA 0,iA 0,.tref 7,iA (A1 b vs.length ars.length (j+1+1)).fst.kind,iA (A1 b vs.length ars.length (j+1+1)).fst.value,.tref 6,iA 0,.tref 8,.v (.slice none 0 0)]::.tree (D.exprs (A1 b vs.length ars.length (j+1+1)).fst.kids)::.tree (D.exprs [])::r0
abbrev br9(b:List UInt8)(vs:List Int)(ars:List Int)(bd:List c6)(j:Int)(r0:List It):List It:=.box [.ref 1,iA (A1 b vs.length ars.length (j+1+1)).snd]::dY b::dI vs::dI ars::dT bd::.box [iA 1,iA (pk b (j+1) (vs.length:Int)),iA 0,iA 0,.tref 7,iA (A1 b vs.length ars.length (j+1+1)).fst.kind,iA (A1 b vs.length ars.length (j+1+1)).fst.value,.tref 6,iA 0,.v (.slice none 0 0),.v (.slice none 0 0)]::.tree (D.exprs (A1 b vs.length ars.length (j+1+1)).fst.kids)::r0
abbrev ad0(r0:List (Nat×AV)):List (Nat×AV):=(0,.ptr 0 0)::(4,.ptr 5 0)::(6,.ptr 6 0)::(8,.ptr 7 0)::r0
abbrev a74(b:List UInt8)(vs:List Int)(ars:List Int)(d:Nat)(j:Int)(r0:List It):List It:=.box [.ref 1,iA (K3 (E6 b vs.length ars.length (d-1)) (nm b (j+1+1) rbL).toNat (j+1+1+1)).snd]::dY b::dI vs::dI ars::r0
abbrev au8(n:Int)(r0:List (Nat×AV)):List (Nat×AV):=(0,.ptr 0 0)::(2,iA n)::(4,.ptr 5 0)::(6,.ptr 6 0)::r0
abbrev W8(b:List UInt8)(vs:List Int)(ars:List Int)(bd:List c6)(r0:List It):List It:=dY b::dI vs::dI ars::dT bd::.box (pL 2)::av2::r0
abbrev br8(b:List UInt8)(vs:List Int)(ars:List Int)(j:Int)(r0:List It):List It:=.tree (D.exprs (t7 b (vs.length:Int) (j+1+1)).kids)::.tree (D.exprs (A1 b vs.length ars.length (j+1+1+2)).fst.kids)::r0
theorem bK9(b:List UInt8)(vs ars:List Int)(bd:List c6)(d:Nat)(hd:d<=3)(ih:∀(j n c:Int),1<d->n=(d:Int)-1->0<=c->c<=2->0<=j->j+2*cS (d-1)<=600000000->j8.ok Tryz.prog (dbC b vs ars bd (d-1) c.toNat j n c))(j n:Int)(hn:n=d)(r0:0<=j)(r1:j+cS d<=600000000):j8.ok Tryz.prog (dsC b vs ars bd d j n):=by
  refine D9 100 Tryz.func171 [.box [.ref 1,iA j],dY b,dI vs,dI ars,dT bd] [(0,.ptr 0 0),(1,pA 2),(2,iA n)] fun G=>?_;have hc:=aE7 (d-1);have hcd:=b48 d;have hcn:=aE7 d;have hsm:=bu8 b vs.length ars.length (k:=j+1) al al;have hib:=cC3 b (j:=(A1 b vs.length ars.length (j+1)).2) al al;have hbb:=b88 b vs.length ars.length (k:=(A1 b vs.length ars.length (j+1)).2+1) (i:=(nm b (A1 b vs.length ars.length (j+1)).2 ibL).toNat) (cp9 hib.1 hib.2 (show 0<=cS (d-1) by omega)) (cE1 _) al al;have hie:=cC2 b (j:=(K3 (E6 b vs.length ars.length (d-1)) (nm b (A1 b vs.length ars.length (j+1)).2 ibL).toNat ((A1 b vs.length ars.length (j+1)).2+1)).2) al al;have hrb:=cz4 b (j:=j+1+1) al al;refine wp_seq (j7 G f8 [0,1,2,3,4,5,13] (.box [.ref 1,iA j]::(W8 b vs ars bd [])) (au8 n []) fun G=>b6 (wp_seq (j7 G (x6 2 [0,1,15] (j8.lend (Z6 b j O8 (List.cons_ne_nil _ _) ai al) [.no,.no,.row 3])) (rg 7) (.box [.ref 1,iA (j+1)]::(W8 b vs ars bd [])) (au8 n [(7,iA (nm b j O8))]) fun G=>b6 (wp_seq (j7 G f8 [0,1,2,3,4,5,6,23] (.box [.ref 1,iA (j+1)]::(W8 b vs ars bd [.box [iA (nm b j O8),iA 0,iA 0,iA 0,.v (.slice none 0 0),iA 0,iA 0,.v (.slice none 0 0),iA 0,.v (.slice none 0 0),.v (.slice none 0 0)]])) (au8 n [(7,iA (nm b j O8)),(8,.ptr 7 0)]) fun G=>b6 (wp_seq (wp_block (wp_seq ?_))))))));cases h0:(nm b j O8==2)
  ·
   have q0:=ne_of_beq_false h0;refine l6 G (H2 (fc h0 fz) (us [(3,6,0),(1007,1007,0)])) [(27,bA false)] fun G=>b6 (rF G false aj (wp_seq ?_));cases h1:(nm b j O8==3)
   ·
    have q1:=ne_of_beq_false h1;refine l6 G (H2 (fc h1 fz) [(3,0),(4,0),(1005,0)]) [(50,bA false)] fun G=>b6 (rF G false aj (wp_seq ?_));cases h2:(nm b j O8==4)
    ·
     have q2:=ne_of_beq_false h2;refine l6 G (H2 (fc h2 fz) [(3,0),(4,0),(1005,0)]) [(79,bA false)] fun G=>b6 (rF G false aj (wp_seq (wp_seq (l6 G f8 [(15,bA (nm b j O8 !=5))] fun G=>b6 (rcN G (fun h3 q3=>?_) fun h3 q3=>?_)))))
     · refine wp_skip (b6 (wp_seq (j7 G (x6 4 [0,1] (G0 b (j+1) ((vs.length:Int)) al al)) (rg 8) (.box [.ref 1,iA (j+1+1)]::(W8 b vs ars bd [.box [iA (nm b j O8),iA (pk b (j+1) (vs.length:Int)),iA 0,iA 0,.v (.slice none 0 0),iA 0,iA 0,.v (.slice none 0 0),iA 0,.v (.slice none 0 0),.v (.slice none 0 0)]])) (ad0 []) fun G=>b6 (j7 G (x6 2 (rg 5) (ai0 b vs ars bd (j+1+1) al al)) [0,1,2,3,4,6,7,24] [ae3 b vs ars j,dY b,dI vs,dI ars,dT bd,av2,.box [iA (nm b j O8),iA (pk b (j+1) (vs.length:Int)),iA 0,iA 0,.v (.slice none 0 0),iA (A1 b vs.length ars.length (j+1+1)).fst.kind,iA (A1 b vs.length ars.length (j+1+1)).fst.value,.tref 7,iA 0,.v (.slice none 0 0),.v (.slice none 0 0)],aq5 b vs ars j] [(6,.ptr 5 0),(8,.ptr 6 0)] fun G=>m8 (b6 (wp_seq (j7 G f8 [0,1,2,3,4,5,7] [ae3 b vs ars j,dY b,dI vs,dI ars,dT bd,.box [iA (nm b j O8),iA (pk b (j+1) (vs.length:Int)),iA 0,iA 0,.v (.slice none 0 0),iA (A1 b vs.length ars.length (j+1+1)).fst.kind,iA (A1 b vs.length ars.length (j+1+1)).fst.value,.tref 6,iA 0,.v (.slice none 0 0),.v (.slice none 0 0)],aq5 b vs ars j] [(6,.ptr 5 0)] fun G=>b6 (wp_ret ?_))))))));obtain⟨ρ,G⟩:=G.nilT 7 (.exprs []) [.box [.ref 1,iA (A1 b vs.length ars.length (j+1+1)).snd],dY b,dI vs,dI ars,dT bd,.box [iA (nm b j O8),iA (pk b (j+1) (vs.length:Int)),iA 0,iA 0,.tref 7,iA (A1 b vs.length ars.length (j+1+1)).fst.kind,iA (A1 b vs.length ars.length (j+1+1)).fst.value,.tref 6,iA 0,.v (.slice none 0 0),.v (.slice none 0 0)],.tree (D.exprs (A1 b vs.length ars.length (j+1+1)).fst.kids)] [(6,.ptr 5 0)];obtain⟨ρ,G⟩:=G.nilT 8 (.stmts []) [.box [.ref 1,iA (A1 b vs.length ars.length (j+1+1)).snd],dY b,dI vs,dI ars,dT bd,.box [iA (nm b j O8),iA (pk b (j+1) (vs.length:Int)),iA 0,iA 0,.tref 7,iA (A1 b vs.length ars.length (j+1+1)).fst.kind,iA (A1 b vs.length ars.length (j+1+1)).fst.value,.tref 6,iA 0,.tref 8,.v (.slice none 0 0)],.tree (D.exprs (A1 b vs.length ars.length (j+1+1)).fst.kids),.tree (D.exprs [])] [(6,.ptr 5 0)];obtain⟨ρ,G⟩:=G.nilT 9 (.stmts []) [.box [.ref 1,iA (A1 b vs.length ars.length (j+1+1)).snd],dY b,dI vs,dI ars,dT bd,.box [iA (nm b j O8),iA (pk b (j+1) (vs.length:Int)),iA 0,iA 0,.tref 7,iA (A1 b vs.length ars.length (j+1+1)).fst.kind,iA (A1 b vs.length ars.length (j+1+1)).fst.value,.tref 6,iA 0,.tref 8,.tref 9],.tree (D.exprs (A1 b vs.length ars.length (j+1+1)).fst.kids),.tree (D.exprs []),.tree (D.stmts [])] [(6,.ptr 5 0)];exact T9 (.agg [iA (nm b j O8),iA (pk b (j+1) (vs.length:Int)),iA 0,iA 0,.tref 7,iA (A1 b vs.length ars.length (j+1+1)).fst.kind,iA (A1 b vs.length ars.length (j+1+1)).fst.value,.tref 6,iA 0,.tref 8,.tref 9]) G [0,1,2,3,4,7,6,8,9] (by show _=AV.ren (nth [0,1,2,3,4,7,6,8,9]) (Z0 b vs ars d j);unfold Z0;have e1:((E6 b vs.length ars.length d j).fst.kind:Int)=(nm b j O8):=(by rw[ak9 al al,cg7 al];show(5:Int)=_;omega);rw[e1,ak9 al al,cg7 al]<;>rfl) (by show _=mR [0,1,2,3,4,7,6,8,9] (Y9 b vs ars bd d j);unfold Y9;rw[ak9 al al,cg7 al]<;>rfl)
     refine j7 G f8 (rg 8) (.box [.ref 1,iA (j+1)]::(W8 b vs ars bd [aZ5])) (ad0 []) fun G=>b6 (wp_seq (j7 G (x6 4 [0,1] (G0 b (j+1) ((vs.length:Int)) al al)) (rg 8) (.box [.ref 1,iA (j+1+1)]::(W8 b vs ars bd [bt0 b vs j])) (ad0 []) fun G=>b6 (j7 G (x6 2 (rg 5) (ai0 b vs ars bd (j+1+1) al al)) [0,1,2,3,4,6,7,24] [ae3 b vs ars j,dY b,dI vs,dI ars,dT bd,av2,bt2 b vs ars j,aq5 b vs ars j] [(6,.ptr 5 0),(8,.ptr 6 0)] fun G=>m8 (b6 (wp_seq (j7 G f8 [0,1,2,3,4,5,7] [ae3 b vs ars j,dY b,dI vs,dI ars,dT bd,bt1 b vs ars j,aq5 b vs ars j] [(6,.ptr 5 0)] fun G=>b6 (wp_ret ?_)))))));obtain⟨ρ,G⟩:=G.nilT 7 (.exprs []) (br9 b vs ars bd j []) [(6,.ptr 5 0)];obtain⟨ρ,G⟩:=G.nilT 8 (.stmts []) (bs0 b vs ars bd j []) [(6,.ptr 5 0)];obtain⟨ρ,G⟩:=G.nilT 9 (.stmts []) (bs1 b vs ars bd j []) [(6,.ptr 5 0)];exact T9 (.agg [iA 1,iA (pk b (j+1) (vs.length:Int)),iA 0,iA 0,.tref 7,iA (A1 b vs.length ars.length (j+1+1)).fst.kind,iA (A1 b vs.length ars.length (j+1+1)).fst.value,.tref 6,iA 0,.tref 8,.tref 9]) G [0,1,2,3,4,7,6,8,9] (by show _=AV.ren (nth [0,1,2,3,4,7,6,8,9]) (Z0 b vs ars d j);unfold Z0;rw[ak9 al al,bg0 al]<;>rfl) (by show _=mR [0,1,2,3,4,7,6,8,9] (Y9 b vs ars bd d j);unfold Y9;rw[ak9 al al,bg0 al]<;>rfl)
    have q2:=eq_of_beq h2;refine l6 G (H2 (fc h2 fz) [(3,0),(4,0),(1005,0)]) [(79,bA (decide (n>1)))] fun G=>b6 (rcD G (fun h4 q4=>?_) fun h4 q4=>?_)
    ·
     refine wp_seq (wp_seq (C6 G f8 (ad0 [(15,bA (nm b j O8 !=5))]) fun G=>b6 ?_));cases h5:(nm b j O8 !=5)
     · have q5:=bne_eq_false_iff_eq.1 h5;exact False.elim al
     have q5:=bne_iff_ne.1 h5;refine rT G _ h5 (j7 G f8 (rg 8) (.box [.ref 1,iA (j+1)]::(W8 b vs ars bd [aZ5])) (ad0 []) fun G=>b6 (wp_seq (j7 G (x6 4 [0,1] (G0 b (j+1) ((vs.length:Int)) al al)) (rg 8) (.box [.ref 1,iA (j+1+1)]::(W8 b vs ars bd [bt0 b vs j])) (ad0 []) fun G=>b6 (j7 G (x6 2 (rg 5) (ai0 b vs ars bd (j+1+1) al al)) [0,1,2,3,4,6,7,24] [ae3 b vs ars j,dY b,dI vs,dI ars,dT bd,av2,bt2 b vs ars j,aq5 b vs ars j] [(6,.ptr 5 0),(8,.ptr 6 0)] fun G=>m8 (b6 (wp_seq (j7 G f8 [0,1,2,3,4,5,7] [ae3 b vs ars j,dY b,dI vs,dI ars,dT bd,bt1 b vs ars j,aq5 b vs ars j] [(6,.ptr 5 0)] fun G=>b6 (wp_ret ?_))))))));obtain⟨ρ,G⟩:=G.nilT 7 (.exprs []) (br9 b vs ars bd j []) [(6,.ptr 5 0)];obtain⟨ρ,G⟩:=G.nilT 8 (.stmts []) (bs0 b vs ars bd j []) [(6,.ptr 5 0)];obtain⟨ρ,G⟩:=G.nilT 9 (.stmts []) (bs1 b vs ars bd j []) [(6,.ptr 5 0)];exact T9 (.agg [iA 1,iA (pk b (j+1) (vs.length:Int)),iA 0,iA 0,.tref 7,iA (A1 b vs.length ars.length (j+1+1)).fst.kind,iA (A1 b vs.length ars.length (j+1+1)).fst.value,.tref 6,iA 0,.tref 8,.tref 9]) G [0,1,2,3,4,7,6,8,9] (by show _=AV.ren (nth [0,1,2,3,4,7,6,8,9]) (Z0 b vs ars d j);unfold Z0;rw[ak9 al al,bg0 al]<;>rfl) (by show _=mR [0,1,2,3,4,7,6,8,9] (Y9 b vs ars bd d j);unfold Y9;rw[ak9 al al,bg0 al]<;>rfl)
    refine wp_seq (j7 G (x6 2 [0,1,16] (j8.lend (Z6 b (j+1) rcL (by simp[h0,h1,h2,h4]) al al) [.no,.no,.row 3])) (rg 8) (.box [.ref 1,iA (j+1+1)]::(W8 b vs ars bd [.box [iA (nm b j O8),iA 0,iA 0,iA 0,.v (.slice none 0 0),iA 0,iA 0,.v (.slice none 0 0),iA (nm b (j+1) rcL),.v (.slice none 0 0),.v (.slice none 0 0)]])) (au8 n [(8,.ptr 7 0)]) fun G=>b6 (K7 G (I7 (y7 6 [0,1,48] (j8.lend (Z6 b (j+1+1) rbL (by simp[h0,h1,h2,h4]) al al) [.no,.no,.row 3]) (y7 7 (rg 5) (ih (j+1+1+1) (n-1) (nm b (j+1+1) rbL) al al al al al al) I6)) fz []) [0,0,0,4,0,0,48,127,255,511] [0,1,2,3,4,6,7,64] (a74 b vs ars d j [dT bd,av2,.box [iA (nm b j O8),iA 0,iA 0,iA 0,.v (.slice none 0 0),iA 0,iA 0,.v (.slice none 0 0),iA (nm b (j+1) rcL),.tref 7,.v (.slice none 0 0)],.tree (D.stmts (K3 (E6 b vs.length ars.length (d-1)) (nm b (j+1+1) rbL).toNat (j+1+1+1)).fst)]) [(6,.ptr 5 0),(8,.ptr 6 0)] [wO (n-1)] (o1 al) fun G=>m8 (b6 (wp_seq (j7 G f8 [0,1,2,3,4,5,7] (a74 b vs ars d j [dT bd,.box [iA (nm b j O8),iA 0,iA 0,iA 0,.v (.slice none 0 0),iA 0,iA 0,.v (.slice none 0 0),iA (nm b (j+1) rcL),.tref 6,.v (.slice none 0 0)],.tree (D.stmts (K3 (E6 b vs.length ars.length (d-1)) (nm b (j+1+1) rbL).toNat (j+1+1+1)).fst)]) [(6,.ptr 5 0)] fun G=>b6 (wp_ret ?_))))));obtain⟨ρ,G⟩:=G.nilT 7 (.exprs []) (a74 b vs ars d j [dT bd,.box [iA (nm b j O8),iA 0,iA 0,iA 0,.tref 7,iA 0,iA 0,.v (.slice none 0 0),iA (nm b (j+1) rcL),.tref 6,.v (.slice none 0 0)],.tree (D.stmts (K3 (E6 b vs.length ars.length (d-1)) (nm b (j+1+1) rbL).toNat (j+1+1+1)).fst)]) [(6,.ptr 5 0)];obtain⟨ρ,G⟩:=G.nilT 8 (.exprs []) (a74 b vs ars d j [dT bd,.box [iA (nm b j O8),iA 0,iA 0,iA 0,.tref 7,iA 0,iA 0,.tref 8,iA (nm b (j+1) rcL),.tref 6,.v (.slice none 0 0)],.tree (D.stmts (K3 (E6 b vs.length ars.length (d-1)) (nm b (j+1+1) rbL).toNat (j+1+1+1)).fst),.tree (D.exprs [])]) [(6,.ptr 5 0)];obtain⟨ρ,G⟩:=G.nilT 9 (.stmts []) (a74 b vs ars d j [dT bd,.box [iA (nm b j O8),iA 0,iA 0,iA 0,.tref 7,iA 0,iA 0,.tref 8,iA (nm b (j+1) rcL),.tref 6,.tref 9],.tree (D.stmts (K3 (E6 b vs.length ars.length (d-1)) (nm b (j+1+1) rbL).toNat (j+1+1+1)).fst),.tree (D.exprs []),.tree (D.exprs [])]) [(6,.ptr 5 0)];exact T9 (.agg [iA (nm b j O8),iA 0,iA 0,iA 0,.tref 7,iA 0,iA 0,.tref 8,iA (nm b (j+1) rcL),.tref 6,.tref 9]) G [0,1,2,3,4,7,8,6,9] (by show _=AV.ren (nth [0,1,2,3,4,7,8,6,9]) (Z0 b vs ars d j);unfold Z0;have e1:((E6 b vs.length ars.length d j).fst.kind:Int)=(nm b j O8):=(by rw[bk0 al al];show(4:Int)=_;omega);rw[e1,bk0 al al]<;>rfl) (by show _=mR [0,1,2,3,4,7,8,6,9] (Y9 b vs ars bd d j);unfold Y9;rw[bk0 al al]<;>rfl)
   have q1:=eq_of_beq h1;refine C6 G (H2 (fc h1 fz) [(3,0),(4,0),(1005,0)]) (au8 n [(7,iA (nm b j O8)),(8,.ptr 7 0),(50,bA (decide (n>1)))]) fun G=>b6 (rcD G (fun h6 q6=>?_) fun h6 q6=>?_)
   ·
    refine wp_seq ?_;cases h7:(nm b j O8==4)
    ·
     have q7:=ne_of_beq_false h7;refine l6 G (H2 (fc h7 fz) [(3,0),(4,0),(1005,0)]) [(79,bA false)] fun G=>b6 (rF G false aj (wp_seq (wp_seq (C6 G f8 (ad0 [(15,bA (nm b j O8 !=5))]) fun G=>b6 ?_))));cases h8:(nm b j O8 !=5)
     · have q8:=bne_eq_false_iff_eq.1 h8;exact False.elim al
     have q8:=bne_iff_ne.1 h8;refine rT G _ h8 (j7 G f8 (rg 8) (.box [.ref 1,iA (j+1)]::(W8 b vs ars bd [aZ5])) (ad0 []) fun G=>b6 (wp_seq (j7 G (x6 4 [0,1] (G0 b (j+1) ((vs.length:Int)) al al)) (rg 8) (.box [.ref 1,iA (j+1+1)]::(W8 b vs ars bd [bt0 b vs j])) (ad0 []) fun G=>b6 (j7 G (x6 2 (rg 5) (ai0 b vs ars bd (j+1+1) al al)) [0,1,2,3,4,6,7,24] [ae3 b vs ars j,dY b,dI vs,dI ars,dT bd,av2,bt2 b vs ars j,aq5 b vs ars j] [(6,.ptr 5 0),(8,.ptr 6 0)] fun G=>m8 (b6 (wp_seq (j7 G f8 [0,1,2,3,4,5,7] [ae3 b vs ars j,dY b,dI vs,dI ars,dT bd,bt1 b vs ars j,aq5 b vs ars j] [(6,.ptr 5 0)] fun G=>b6 (wp_ret ?_))))))));obtain⟨ρ,G⟩:=G.nilT 7 (.exprs []) (br9 b vs ars bd j []) [(6,.ptr 5 0)];obtain⟨ρ,G⟩:=G.nilT 8 (.stmts []) (bs0 b vs ars bd j []) [(6,.ptr 5 0)];obtain⟨ρ,G⟩:=G.nilT 9 (.stmts []) (bs1 b vs ars bd j []) [(6,.ptr 5 0)];exact T9 (.agg [iA 1,iA (pk b (j+1) (vs.length:Int)),iA 0,iA 0,.tref 7,iA (A1 b vs.length ars.length (j+1+1)).fst.kind,iA (A1 b vs.length ars.length (j+1+1)).fst.value,.tref 6,iA 0,.tref 8,.tref 9]) G [0,1,2,3,4,7,6,8,9] (by show _=AV.ren (nth [0,1,2,3,4,7,6,8,9]) (Z0 b vs ars d j);unfold Z0;rw[ak9 al al,bg0 al]<;>rfl) (by show _=mR [0,1,2,3,4,7,6,8,9] (Y9 b vs ars bd d j);unfold Y9;rw[ak9 al al,bg0 al]<;>rfl)
    have q7:=eq_of_beq h7;exact False.elim al
   refine wp_seq (j7 G (x6 2 (rg 5) (ai0 b vs ars bd (j+1) al al)) [0,1,2,3,4,5,6,7,24] (.box [.ref 1,iA (A1 b vs.length ars.length (j+1)).snd]::(W8 b vs ars bd [.box [iA (nm b j O8),iA 0,iA 0,iA 0,.v (.slice none 0 0),iA (A1 b vs.length ars.length (j+1)).fst.kind,iA (A1 b vs.length ars.length (j+1)).fst.value,.tref 8,iA 0,.v (.slice none 0 0),.v (.slice none 0 0)],.tree (D.exprs (A1 b vs.length ars.length (j+1)).fst.kids)])) (au8 n [(8,.ptr 7 0)]) fun G=>b6 (wp_seq (K7 G (I7 (y7 6 [0,1,49] (j8.lend (Z6 b ((A1 b vs.length ars.length (j+1)).snd) ibL (by simp[h0,h1,h6]) al al) [.no,.no,.row 3]) (y7 7 (rg 5) (ih ((A1 b vs.length ars.length (j+1)).snd+1) (n-1) (nm b (A1 b vs.length ars.length (j+1)).snd ibL) al al al al al al) I6)) fz []) [0,0,0,4,0,0,48,127,255,511] [0,1,2,3,4,5,6,7,8,65] (.box [.ref 1,iA (aU3 b vs ars d j).snd]::(W8 b vs ars bd [.box [iA (nm b j O8),iA 0,iA 0,iA 0,.v (.slice none 0 0),iA (A1 b vs.length ars.length (j+1)).fst.kind,iA (A1 b vs.length ars.length (j+1)).fst.value,.tref 8,iA 0,.tref 9,.v (.slice none 0 0)],.tree (D.exprs (A1 b vs.length ars.length (j+1)).fst.kids),.tree (D.stmts (aU3 b vs ars d j).fst)])) (au8 n [(8,.ptr 7 0)]) [wO (n-1)] (o1 al) fun G=>b6 (K7 G (I7 (y7 6 [0,1,50] (j8.lend (Z6 b ((K3 (E6 b vs.length ars.length (d-1)) (nm b (A1 b vs.length ars.length (j+1)).snd ibL).toNat ((A1 b vs.length ars.length (j+1)).snd+1)).snd) ieL (by simp[h0,h1,h6]) al al) [.no,.no,.row 3]) (y7 7 (rg 5) (ih ((K3 (E6 b vs.length ars.length (d-1)) (nm b (A1 b vs.length ars.length (j+1)).snd ibL).toNat ((A1 b vs.length ars.length (j+1)).snd+1)).snd+1) (n-1) (nm b (K3 (E6 b vs.length ars.length (d-1)) (nm b (A1 b vs.length ars.length (j+1)).snd ibL).toNat ((A1 b vs.length ars.length (j+1)).snd+1)).snd ieL) al al al al al al) I6)) fz []) [0,0,0,4,0,0,48,127,255,511] [0,1,2,3,4,6,7,8,9,66] [.box [.ref 1,iA (bt3 b vs ars d j).snd],dY b,dI vs,dI ars,dT bd,av2,.box [iA (nm b j O8),iA 0,iA 0,iA 0,.v (.slice none 0 0),iA (A1 b vs.length ars.length (j+1)).fst.kind,iA (A1 b vs.length ars.length (j+1)).fst.value,.tref 7,iA 0,.tref 8,.tref 9],.tree (D.exprs (A1 b vs.length ars.length (j+1)).fst.kids),.tree (D.stmts (aU3 b vs ars d j).fst),.tree (D.stmts (bt3 b vs ars d j).fst)] [(6,.ptr 5 0),(8,.ptr 6 0)] [wO (n-1)] (o1 al) fun G=>m8 (b6 (wp_seq (j7 G f8 [0,1,2,3,4,5,7,8,9] [.box [.ref 1,iA (bt3 b vs ars d j).snd],dY b,dI vs,dI ars,dT bd,.box [iA (nm b j O8),iA 0,iA 0,iA 0,.v (.slice none 0 0),iA (A1 b vs.length ars.length (j+1)).fst.kind,iA (A1 b vs.length ars.length (j+1)).fst.value,.tref 6,iA 0,.tref 7,.tref 8],.tree (D.exprs (A1 b vs.length ars.length (j+1)).fst.kids),.tree (D.stmts (aU3 b vs ars d j).fst),.tree (D.stmts (bt3 b vs ars d j).fst)] [(6,.ptr 5 0)] fun G=>b6 (wp_ret ?_))))))));obtain⟨ρ,G⟩:=G.nilT 9 (.exprs []) [.box [.ref 1,iA (K3 (E6 b vs.length ars.length (d-1)) (nm b (K3 (E6 b vs.length ars.length (d-1)) (nm b (A1 b vs.length ars.length (j+1)).snd ibL).toNat ((A1 b vs.length ars.length (j+1)).snd+1)).snd ieL).toNat ((K3 (E6 b vs.length ars.length (d-1)) (nm b (A1 b vs.length ars.length (j+1)).snd ibL).toNat ((A1 b vs.length ars.length (j+1)).snd+1)).snd+1)).snd],dY b,dI vs,dI ars,dT bd,.box [iA (nm b j O8),iA 0,iA 0,iA 0,.tref 9,iA (A1 b vs.length ars.length (j+1)).fst.kind,iA (A1 b vs.length ars.length (j+1)).fst.value,.tref 6,iA 0,.tref 7,.tref 8],.tree (D.exprs (A1 b vs.length ars.length (j+1)).fst.kids),.tree (D.stmts (K3 (E6 b vs.length ars.length (d-1)) (nm b (A1 b vs.length ars.length (j+1)).snd ibL).toNat ((A1 b vs.length ars.length (j+1)).snd+1)).fst),.tree (D.stmts (K3 (E6 b vs.length ars.length (d-1)) (nm b (K3 (E6 b vs.length ars.length (d-1)) (nm b (A1 b vs.length ars.length (j+1)).snd ibL).toNat ((A1 b vs.length ars.length (j+1)).snd+1)).snd ieL).toNat ((K3 (E6 b vs.length ars.length (d-1)) (nm b (A1 b vs.length ars.length (j+1)).snd ibL).toNat ((A1 b vs.length ars.length (j+1)).snd+1)).snd+1)).fst)] [(6,.ptr 5 0)]
   exact T9 (.agg [iA (nm b j O8),iA 0,iA 0,iA 0,.tref 9,iA (A1 b vs.length ars.length (j+1)).fst.kind,iA (A1 b vs.length ars.length (j+1)).fst.value,.tref 6,iA 0,.tref 7,.tref 8]) G [0,1,2,3,4,9,6,7,8] (by show _=AV.ren (nth [0,1,2,3,4,9,6,7,8]) (Z0 b vs ars d j);unfold Z0;have e1:((E6 b vs.length ars.length d j).fst.kind:Int)=(nm b j O8):=(by rw[bk1 al al];show(3:Int)=_;omega);rw[e1,bk1 al al]<;>rfl) (by show _=mR [0,1,2,3,4,9,6,7,8] (Y9 b vs ars bd d j);unfold Y9;rw[bk1 al al]<;>rfl)
  have q0:=eq_of_beq h0;refine C6 G (H2 (fc h0 fz) (us [(3,6,0),(1007,1007,0)])) (au8 n [(7,iA (nm b j O8)),(8,.ptr 7 0),(27,bA (decide ((ars.length:Int)>0)))]) fun G=>b6 (rcD G (fun h9 q9=>?_) fun h9 q9=>?_)
  ·
   refine wp_seq ?_;cases h10:(nm b j O8==3)
   ·
    have q10:=ne_of_beq_false h10;refine C6 G (H2 (fc h10 fz) [(3,0),(4,0),(1005,0)]) (au8 n [(7,iA (nm b j O8)),(8,.ptr 7 0),(50,bA false)]) fun G=>b6 (rF G false aj (wp_seq ?_));cases h11:(nm b j O8==4)
    ·
     have q11:=ne_of_beq_false h11;refine l6 G (H2 (fc h11 fz) [(3,0),(4,0),(1005,0)]) [(79,bA false)] fun G=>b6 (rF G false aj (wp_seq (wp_seq (C6 G f8 (ad0 [(15,bA (nm b j O8 !=5))]) fun G=>b6 ?_))));cases h12:(nm b j O8 !=5)
     · have q12:=bne_eq_false_iff_eq.1 h12;exact False.elim al
     have q12:=bne_iff_ne.1 h12;refine rT G _ h12 (j7 G f8 (rg 8) (.box [.ref 1,iA (j+1)]::(W8 b vs ars bd [aZ5])) (ad0 []) fun G=>b6 (wp_seq (j7 G (x6 4 [0,1] (G0 b (j+1) ((vs.length:Int)) al al)) (rg 8) (.box [.ref 1,iA (j+1+1)]::(W8 b vs ars bd [bt0 b vs j])) (ad0 []) fun G=>b6 (j7 G (x6 2 (rg 5) (ai0 b vs ars bd (j+1+1) al al)) [0,1,2,3,4,6,7,24] [ae3 b vs ars j,dY b,dI vs,dI ars,dT bd,av2,bt2 b vs ars j,aq5 b vs ars j] [(6,.ptr 5 0),(8,.ptr 6 0)] fun G=>m8 (b6 (wp_seq (j7 G f8 [0,1,2,3,4,5,7] [ae3 b vs ars j,dY b,dI vs,dI ars,dT bd,bt1 b vs ars j,aq5 b vs ars j] [(6,.ptr 5 0)] fun G=>b6 (wp_ret ?_))))))));obtain⟨ρ,G⟩:=G.nilT 7 (.exprs []) (br9 b vs ars bd j []) [(6,.ptr 5 0)];obtain⟨ρ,G⟩:=G.nilT 8 (.stmts []) (bs0 b vs ars bd j []) [(6,.ptr 5 0)];obtain⟨ρ,G⟩:=G.nilT 9 (.stmts []) (bs1 b vs ars bd j []) [(6,.ptr 5 0)];exact T9 (.agg [iA 1,iA (pk b (j+1) (vs.length:Int)),iA 0,iA 0,.tref 7,iA (A1 b vs.length ars.length (j+1+1)).fst.kind,iA (A1 b vs.length ars.length (j+1+1)).fst.value,.tref 6,iA 0,.tref 8,.tref 9]) G [0,1,2,3,4,7,6,8,9] (by show _=AV.ren (nth [0,1,2,3,4,7,6,8,9]) (Z0 b vs ars d j);unfold Z0;rw[ak9 al al,bg0 al]<;>rfl) (by show _=mR [0,1,2,3,4,7,6,8,9] (Y9 b vs ars bd d j);unfold Y9;rw[ak9 al al,bg0 al]<;>rfl)
    have q11:=eq_of_beq h11;exact False.elim al
   have q10:=eq_of_beq h10;exact False.elim al
  refine wp_seq (j7 G (x6 4 [0,1] (G0 b (j+1) ((ars.length:Int)) al al)) (rg 8) (.box [.ref 1,iA (j+1+1)]::(W8 b vs ars bd [.box [iA (nm b j O8),iA (pk b (j+1) (ars.length:Int)),iA 0,iA 0,.v (.slice none 0 0),iA 0,iA 0,.v (.slice none 0 0),iA 0,.v (.slice none 0 0),.v (.slice none 0 0)]])) (ad0 []) fun G=>b6 (wp_seq (j7 G (x6 2 (rg 5) (aC1 b (j+1+1) vs ars bd al al)) [0,1,2,3,4,5,6,7,24] (.box [.ref 1,iA (j+1+1+2)]::(W8 b vs ars bd [.box [iA (nm b j O8),iA (pk b (j+1) (ars.length:Int)),iA (t7 b (vs.length:Int) (j+1+1)).kind,iA (t7 b (vs.length:Int) (j+1+1)).value,.tref 8,iA 0,iA 0,.v (.slice none 0 0),iA 0,.v (.slice none 0 0),.v (.slice none 0 0)],.tree (D.exprs (t7 b (vs.length:Int) (j+1+1)).kids)])) (ad0 []) fun G=>b6 (j7 G (x6 2 (rg 5) (ai0 b vs ars bd (j+1+1+2) al al)) [0,1,2,3,4,6,7,8,25] (.box [.ref 1,iA (A1 b vs.length ars.length (j+1+1+2)).snd]::dY b::dI vs::dI ars::dT bd::av2::.box [iA (nm b j O8),iA (pk b (j+1) (ars.length:Int)),iA (t7 b (vs.length:Int) (j+1+1)).kind,iA (t7 b (vs.length:Int) (j+1+1)).value,.tref 7,iA (A1 b vs.length ars.length (j+1+1+2)).fst.kind,iA (A1 b vs.length ars.length (j+1+1+2)).fst.value,.tref 8,iA 0,.v (.slice none 0 0),.v (.slice none 0 0)]::(br8 b vs ars j [])) [(6,.ptr 5 0),(8,.ptr 6 0)] fun G=>m8 (b6 (wp_seq (j7 G f8 [0,1,2,3,4,5,7,8] (.box [.ref 1,iA (A1 b vs.length ars.length (j+1+1+2)).snd]::dY b::dI vs::dI ars::dT bd::.box [iA (nm b j O8),iA (pk b (j+1) (ars.length:Int)),iA (t7 b (vs.length:Int) (j+1+1)).kind,iA (t7 b (vs.length:Int) (j+1+1)).value,.tref 6,iA (A1 b vs.length ars.length (j+1+1+2)).fst.kind,iA (A1 b vs.length ars.length (j+1+1+2)).fst.value,.tref 7,iA 0,.v (.slice none 0 0),.v (.slice none 0 0)]::(br8 b vs ars j [])) [(6,.ptr 5 0)] fun G=>b6 (wp_ret ?_))))))));obtain⟨ρ,G⟩:=G.nilT 8 (.stmts []) (.box [.ref 1,iA (A1 b vs.length ars.length (j+1+1+2)).snd]::dY b::dI vs::dI ars::dT bd::.box [iA (nm b j O8),iA (pk b (j+1) (ars.length:Int)),iA (t7 b (vs.length:Int) (j+1+1)).kind,iA (t7 b (vs.length:Int) (j+1+1)).value,.tref 6,iA (A1 b vs.length ars.length (j+1+1+2)).fst.kind,iA (A1 b vs.length ars.length (j+1+1+2)).fst.value,.tref 7,iA 0,.tref 8,.v (.slice none 0 0)]::(br8 b vs ars j [])) [(6,.ptr 5 0)];obtain⟨ρ,G⟩:=G.nilT 9 (.stmts []) (.box [.ref 1,iA (A1 b vs.length ars.length (j+1+1+2)).snd]::dY b::dI vs::dI ars::dT bd::.box [iA (nm b j O8),iA (pk b (j+1) (ars.length:Int)),iA (t7 b (vs.length:Int) (j+1+1)).kind,iA (t7 b (vs.length:Int) (j+1+1)).value,.tref 6,iA (A1 b vs.length ars.length (j+1+1+2)).fst.kind,iA (A1 b vs.length ars.length (j+1+1+2)).fst.value,.tref 7,iA 0,.tref 8,.tref 9]::(br8 b vs ars j [.tree (D.stmts [])])) [(6,.ptr 5 0)]
  exact T9 (.agg [iA (nm b j O8),iA (pk b (j+1) (ars.length:Int)),iA (t7 b (vs.length:Int) (j+1+1)).kind,iA (t7 b (vs.length:Int) (j+1+1)).value,.tref 6,iA (A1 b vs.length ars.length (j+1+1+2)).fst.kind,iA (A1 b vs.length ars.length (j+1+1+2)).fst.value,.tref 7,iA 0,.tref 8,.tref 9]) G [0,1,2,3,4,6,7,8,9] (by show _=AV.ren (nth [0,1,2,3,4,6,7,8,9]) (Z0 b vs ars d j);unfold Z0;have e1:((E6 b vs.length ars.length d j).fst.kind:Int)=(nm b j O8):=(by rw[bK1 al al];show(2:Int)=_;omega);rw[e1,bK1 al al]<;>rfl) (by show _=mR [0,1,2,3,4,6,7,8,9] (Y9 b vs ars bd d j);unfold Y9;rw[bK1 al al]<;>rfl)
theorem bh3(b:List UInt8)(vs ars:List Int)(bd:List c6)(d:Nat)(h:∀(j n:Int),n=d->0<=j->j+cS d<=600000000->j8.ok Tryz.prog (dsC b vs ars bd d j n))(m:Nat)(j n c B:Int)(hn:n=d)(hm:c=m)(hm2:m<=4)(hB:(m:Int)*cS d<=B)(r0:0<=j)(r1:j+B<=600000000):j8.ok Tryz.prog (dbC b vs ars bd d m j n c):=
 bZ6 b vs ars bd d m h j n c hn hm hm2 B hB r0 r1
theorem bS8(b:List UInt8)(vs ars:List Int)(bd:List c6):∀(d:Nat),d<=3->∀(j n:Int),n=d->0<=j->j+cS d<=600000000->j8.ok Tryz.prog (dsC b vs ars bd d j n)
 |0,hd,j,n,hn,r0,r1=>bK9 b vs ars bd 0 al (fun j n c h=>absurd h al) j n hn r0 r1
 |d+1,hd,j,n,hn,r0,r1=>bK9 b vs ars bd (d+1) hd (fun j n c h hn h0 h2 r0 r1=>bh3 b vs ars bd d (bS8 b vs ars bd d al) c.toNat j n c (2*cS d) al al al (cp9 h0 h2 (Int.le_trans ak (aE7 d))) r0 (by simpa using r1)) j n hn r0 r1
theorem cv6:cS 3=34170:=ak
theorem ci1(b:List UInt8)(vs ars:List Int)(bd:List c6)(j n c:Int)(hn:n=3)(h0:0<=c)(h4:c<=4)(r0:0<=j)(r1:j<=100000000):j8.ok Tryz.prog (dbC b vs ars bd 3 c.toNat j n c):=
 bh3 b vs ars bd 3 (bS8 b vs ars bd 3 al) c.toNat j n c (4*cS 3) al al al (cB8 h0 h4 (by rw[cv6];decide)) r0 (by rw[cv6];omega)
abbrev pgC(b:List UInt8)(j:Int):j8:=⟨86,[.ptr 0 0],[.box [.ref 1,iA j],dY b],[.box [.ref 1,iA (R8 b j).2],dY b]++oP (O9 b j),oA 2⟩
theorem bw8{b:List UInt8}{l:List Int}{n i p:Int}(h:i>0)(h2:i<=n):nsD b l (n-(i-1)).toNat p=nsD b l (n-i).toNat p++[nm b (p+(n-i)) l]:=by
 rw[show(n-(i-1)).toNat=(n-i).toNat+1 by omega,bO3,show(((n-i).toNat:Nat):Int)=n-i by omega]
theorem bw7{b:List UInt8}{l:List Int}{n p:Int}:nsD b l (n-n).toNat p=[]:=by rw[Int.sub_self];rfl
theorem aj0(vs ars:List Int)(bd:List c6)(hb:j6 bd<=1048576):j8.ok Tryz.prog (P1 92 [pA 0] [dI vs,dI ars,dT bd] (bA (n9 ⟨vs,ars,bd⟩))):=T3 ⟨vs,ars,bd⟩ hb
theorem cB3{b:List UInt8}{j:Int}(h:n9 ⟨vsD b j,asD b j,(K3 (E6 b (vsD b j).length (asD b j).length 3) (nm b (kp2 b j) nbL).toNat (kp2 b j+1)).1⟩=true):O9 b j=⟨vsD b j,asD b j,(R8 b j).1⟩:=if_pos h
theorem cB2{b:List UInt8}{j:Int}(h:n9 ⟨vsD b j,asD b j,(K3 (E6 b (vsD b j).length (asD b j).length 3) (nm b (kp2 b j) nbL).toNat (kp2 b j+1)).1⟩=false):O9 b j=fbP:=if_neg (by intro h2;have h3:n9 ⟨vsD b j,asD b j,(K3 (E6 b (vsD b j).length (asD b j).length 3) (nm b (kp2 b j) nbL).toNat (kp2 b j+1)).1⟩=true:=h2;rw[h]at h3;cases h3)
theorem co8(b:List UInt8)(j:Int):j+1+(nm b j nvL-0)=M6 b j:=by unfold M6;omega
theorem co7(b:List UInt8)(j:Int):nsD b viL (nm b j nvL-0).toNat (j+1)=vsD b j:=by unfold vsD;rw[Int.sub_zero]
theorem co6(b:List UInt8)(j:Int):M6 b j+1+(nm b (M6 b j) naL-0)=kp2 b j:=by unfold kp2;omega
theorem co5(b:List UInt8)(j:Int):nsD b aiL (nm b (M6 b j) naL-0).toNat (M6 b j+1)=asD b j:=by unfold asD;rw[Int.sub_zero]
abbrev aD1(b:List UInt8)(j:Int):=K3 (E6 b (vsD b j).length (asD b j).length 3) (nm b (kp2 b j) nbL).toNat (kp2 b j+1)
abbrev bs9(b:List UInt8)(j:Int):List It:=[.box [.ref 1,iA (R8 b j).snd],dY b,.row 3 (D.ints (O9 b j).vars),.row 3 (D.ints (O9 b j).arrays),.tree (D.stmts (O9 b j).body)]
abbrev X0:It:=.box [.v (.slice none 0 0),.v (.slice none 0 0),.v (.slice none 0 0)]
abbrev a83:It:=.box [.ref 4,.v (.slice none 0 0),.v (.slice none 0 0)]
abbrev bI3:It:=.tree (D.stmts [c6.mk 1 1 (c7.mk 0 0 []) (c7.mk 2 0 []) 0 [] []])
theorem aE5(b:List UInt8)(j:Int)(r0:0<=j)(r1:j<=10000000):j8.ok Tryz.prog (pgC b j):=by
  refine D9 52 Tryz.func86 [.box [.ref 1,iA j],dY b] [(0,.ptr 0 0)] fun G=>?_;have hnv:=cd6 b r0 al;have hk1:=bP8 b r0 r1;have hk2:=bx8 b r0 r1;have hna:=cd9 b (k:=M6 b j) al al;have hnb:=cp7 b (k:=kp2 b j) al al;have hvl:=bI8 b r0 r1;have hal:=bV8 b r0 r1;have hbd:=bA1 b r0 r1;have hbs:j6 (K3 (E6 b (vsD b j).length (asD b j).length 3) (nm b (kp2 b j) nbL).toNat (kp2 b j+1)).1<=1048576:=cG3 hbd.2.2 al;refine wp_seq (j7 G f8 [0,1,2] [.box [.ref 1,iA j],dY b,X0] [(0,.ptr 0 0),(2,.ptr 2 0)] fun G=>b6 (wp_seq (j7 G f8 [0,1,2,11] [.box [.ref 1,iA j],dY b,X0,X0] [(0,.ptr 0 0),(2,.ptr 2 0),(3,.ptr 3 0)] fun G=>b6 (wp_seq (wp_seq (j7 G (x6 2 [0,1,12] (j8.lend (Z6 b j nvL (List.cons_ne_nil _ _) ai al) [.no,.no,.row 3])) (rg 4) [.box [.ref 1,iA (j+1)],dY b,X0,X0] [(0,.ptr 0 0),(2,.ptr 2 0),(3,.ptr 3 0),(4,iA (nm b j nvL))] fun G=>b6 (wp_block ?_)))))));have Gx:=G.nil 4 3 (.ints []) 1 [.box [.ref 1,iA (j+1)],dY b,X0,a83] [(0,.ptr 0 0),(2,.ptr 2 0),(3,.ptr 3 0),(4,iA (nm b j nvL))];clear G;obtain⟨ρ,G⟩:=Gx;replace G:=x7.at G [.box [.ref 1,iA (j+1)],dY b,X0,a83,.row 3 (D.ints [])] [(0,.ptr 0 0),(2,.ptr 2 0),(3,.ptr 3 0),(4,iA (nm b j nvL))];replace G:=G.as [.box [.ref 1,iA (j+1+(nm b j nvL-nm b j nvL))],dY b,.box [.v (.slice none 0 0),.v (.slice none 0 0),.v (.slice none 0 0)],.box [.ref 4,.v (.slice none 0 0),.v (.slice none 0 0)],.row 3 (D.ints (nsD b viL (nm b j nvL-nm b j nvL).toNat (j+1)))] [(0,.ptr 0 0),(2,.ptr 2 0),(3,.ptr 3 0),(4,iA (nm b j nvL))] (by have e1:(j+1+(nm b j nvL-nm b j nvL):Int)=(j+1):=al;have e2:(nsD b viL (nm b j nvL-nm b j nvL).toNat (j+1):List Int)=([]):=bw7;(first|rw[e1,e2]|simp only[e1,e2])<;>rfl) aj;refine t9 (κ:=Int) (fun i=>0<=i/\i<=nm b j nvL) (fun i=>i.toNat) (fun i=>[.box [.ref 1,iA (j+1+(nm b j nvL-i))],dY b,.box [.v (.slice none 0 0),.v (.slice none 0 0),.v (.slice none 0 0)],.box [.ref 4,.v (.slice none 0 0),.v (.slice none 0 0)],.row 3 (.ints (nsD b viL (nm b j nvL-i).toNat (j+1)))]) (fun i=>[(0,.ptr 0 0),(2,.ptr 2 0),(3,.ptr 3 0),(4,iA i)]) (nm b j nvL) al (x7.at G _ _) ?_;clear G;intro i ρ a w hp G;replace G:=x7.at G [.box [.ref 1,iA (j+1+(nm b j nvL-i))],dY b,X0,a83,.row 3 (D.ints (nsD b viL (nm b j nvL-i).toNat (j+1)))] [(0,.ptr 0 0),(2,.ptr 2 0),(3,.ptr 3 0),(4,iA i)];have hlen:(nsD b viL (nm b j nvL-i).toNat (j+1)).length=(nm b j nvL-i).toNat:=ao1 _ _ _ _;refine wp_seq (wp_seq (C6 G f8 [(0,.ptr 0 0),(2,.ptr 2 0),(3,.ptr 3 0),(4,iA i),(11,bA (decide (i>0)))] fun G=>b6 ?_));cases h0:(decide (i>0))
  ·
   have q0:=dFf h0
   obtain rfl:i=0:=al
   rw[co8,co7]at G;refine rF G false aj (wp_exit (t4 (t4 (t3 (b6 (wp_seq (wp_seq (j7 G (x6 2 [0,1,13] (j8.lend (Z6 b (M6 b j) naL (by simp[h0]) al al) [.no,.no,.row 3])) (rg 5) [.box [.ref 1,iA (M6 b j+1)],dY b,X0,a83,.row 3 (D.ints (vsD b j))] [(0,.ptr 0 0),(2,.ptr 2 0),(3,.ptr 3 0),(5,iA (nm b (M6 b j) naL))] fun G=>b6 (wp_block ?_)))))))));have Gx:=G.nil 5 3 (.ints []) 1 [.box [.ref 1,iA (M6 b j+1)],dY b,X0,.box [.ref 4,.ref 5,.v (.slice none 0 0)],.row 3 (D.ints (vsD b j))] [(0,.ptr 0 0),(2,.ptr 2 0),(3,.ptr 3 0),(5,iA (nm b (M6 b j) naL))];clear G;obtain⟨ρ,G⟩:=Gx;replace G:=x7.at G [.box [.ref 1,iA (M6 b j+1)],dY b,X0,.box [.ref 4,.ref 5,.v (.slice none 0 0)],.row 3 (D.ints (vsD b j)),.row 3 (D.ints [])] [(0,.ptr 0 0),(2,.ptr 2 0),(3,.ptr 3 0),(5,iA (nm b (M6 b j) naL))];have Gx:=G.nilT 6 (.stmts []) [.box [.ref 1,iA (M6 b j+1)],dY b,X0,.box [.ref 4,.ref 5,.tref 6],.row 3 (D.ints (vsD b j)),.row 3 (D.ints [])] [(0,.ptr 0 0),(2,.ptr 2 0),(3,.ptr 3 0),(5,iA (nm b (M6 b j) naL))];clear G;obtain⟨ρ,G⟩:=Gx;replace G:=x7.at G [.box [.ref 1,iA (M6 b j+1)],dY b,X0,.box [.ref 4,.ref 5,.tref 6],.row 3 (D.ints (vsD b j)),.row 3 (D.ints []),.tree (D.stmts [])] [(0,.ptr 0 0),(2,.ptr 2 0),(3,.ptr 3 0),(5,iA (nm b (M6 b j) naL))];replace G:=G.as [.box [.ref 1,iA (M6 b j+1+(nm b (M6 b j) naL-nm b (M6 b j) naL))],dY b,.box [.v (.slice none 0 0),.v (.slice none 0 0),.v (.slice none 0 0)],.box [.ref 4,.ref 5,.tref 6],.row 3 (D.ints (vsD b j)),.row 3 (D.ints (nsD b aiL (nm b (M6 b j) naL-nm b (M6 b j) naL).toNat (M6 b j+1))),.tree (D.stmts [])] [(0,.ptr 0 0),(2,.ptr 2 0),(3,.ptr 3 0),(5,iA (nm b (M6 b j) naL))] (by have e1:(M6 b j+1+(nm b (M6 b j) naL-nm b (M6 b j) naL):Int)=(M6 b j+1):=al;have e2:(nsD b aiL (nm b (M6 b j) naL-nm b (M6 b j) naL).toNat (M6 b j+1):List Int)=([]):=bw7;(first|rw[e1,e2]|simp only[e1,e2])<;>rfl) aj;refine t9 (κ:=Int) (fun i2=>0<=i2/\i2<=nm b (M6 b j) naL) (fun i2=>i2.toNat) (fun i2=>[.box [.ref 1,iA (M6 b j+1+(nm b (M6 b j) naL-i2))],dY b,.box [.v (.slice none 0 0),.v (.slice none 0 0),.v (.slice none 0 0)],.box [.ref 4,.ref 5,.tref 6],.row 3 (D.ints (vsD b j)),.row 3 (.ints (nsD b aiL (nm b (M6 b j) naL-i2).toNat (M6 b j+1))),.tree (D.stmts [])]) (fun i2=>[(0,.ptr 0 0),(2,.ptr 2 0),(3,.ptr 3 0),(5,iA i2)]) (nm b (M6 b j) naL) al (x7.at G _ _) ?_;clear G;intro i2 ρ a w hp G;replace G:=x7.at G [.box [.ref 1,iA (M6 b j+1+(nm b (M6 b j) naL-i2))],dY b,X0,.box [.ref 4,.ref 5,.tref 6],.row 3 (D.ints (vsD b j)),.row 3 (D.ints (nsD b aiL (nm b (M6 b j) naL-i2).toNat (M6 b j+1))),.tree (D.stmts [])] [(0,.ptr 0 0),(2,.ptr 2 0),(3,.ptr 3 0),(5,iA i2)];have hlen:(nsD b aiL (nm b (M6 b j) naL-i2).toNat (M6 b j+1)).length=(nm b (M6 b j) naL-i2).toNat:=ao1 _ _ _ _;refine wp_seq (wp_seq (C6 G f8 [(0,.ptr 0 0),(2,.ptr 2 0),(3,.ptr 3 0),(5,iA i2),(26,bA (decide (i2>0)))] fun G=>b6 ?_));cases h1:(decide (i2>0))
   ·
    have q1:=dFf h1
    obtain rfl:i2=0:=al
    rw[co6,co5]at G;refine rF G false aj (wp_exit (t4 (t4 (t3 (b6 (wp_seq (af5 G (I7 (y7 4 [0,1,31] (j8.lend (Z6 b (kp2 b j) nbL (by simp[h0,h1]) al al) [.no,.no,.row 3]) (y7 5 [0,1,4,5,6] (j8.lend (ci1 b (vsD b j) (asD b j) ([]) (kp2 b j+1) 3 (nm b (kp2 b j) nbL) aj al al al al) [.no,.no,.row 3,.row 3,.tree]) I6)) fz []) [0,0,0,0,12,31,63,127] [0,1,2,3,4,5,47] [.box [.ref 1,iA (aD1 b j).snd],dY b,X0,.box [.ref 4,.ref 5,.tref 6],.row 3 (D.ints (vsD b j)),.row 3 (D.ints (asD b j)),.tree (D.stmts (aD1 b j).fst)] [(2,.ptr 2 0),(3,.ptr 3 0)] fun G=>b6 (wp_seq (wp_seq (l6 G (x6 1 [4,5,6] (j8.lend (aj0 (vsD b j) (asD b j) ((K3 (E6 b (vsD b j).length (asD b j).length 3) (nm b (kp2 b j) nbL).toNat (kp2 b j+1)).fst) ai) [.row 3,.row 3,.tree])) [(45,bA (n9 (i6.mk (vsD b j) (asD b j) (aD1 b j).fst)))] fun G=>b6 (rcB (b:=n9 (i6.mk (vsD b j) (asD b j) (K3 (E6 b (vsD b j).length (asD b j).length (3:Nat)) (nm b (kp2 b j) nbL).toNat (kp2 b j+1)).fst)) G (fun h2=>?_) fun h2=>?_)))))))))))
    · refine wp_skip (b6 (wp_seq (j7 G f8 [0,1,2,7,31] [.box [.ref 1,iA (aD1 b j).snd],dY b,.box [.ref 3,.v (.slice none 0 0),.tref 4],.row 3 (D.ints ([0]++([1]++[]))),bI3] [(2,.ptr 2 0)] fun G=>b6 (wp_ret ?_))));have Gx:=G.nil 5 3 (.ints []) 1 [.box [.ref 1,iA (aD1 b j).snd],dY b,.box [.ref 3,.ref 5,.tref 4],.row 3 (D.ints ([0]++([1]++[]))),bI3] [(2,.ptr 2 0)];clear G;obtain⟨ρ,G⟩:=Gx;replace G:=x7.at G [.box [.ref 1,iA (aD1 b j).snd],dY b,.box [.ref 3,.ref 5,.tref 4],.row 3 (D.ints ([0]++([1]++[]))),bI3,.row 3 (D.ints [])] [(2,.ptr 2 0)];exact G7 G [0,1,3,5,4] (by show _=mR [0,1,3,5,4] (bs9 b j);unfold bs9;rw[cB2 ab]<;>rfl)
    refine wp_seq (j7 G f8 [0,1,2,4,5,6] [.box [.ref 1,iA (aD1 b j).snd],dY b,.box [.ref 3,.ref 4,.tref 5],.row 3 (D.ints (vsD b j)),.row 3 (D.ints (asD b j)),.tree (D.stmts (aD1 b j).fst)] [(2,.ptr 2 0)] fun G=>b6 (wp_ret (l7 ?_)));exact G7 G [0,1,3,4,5] (by show _=mR [0,1,3,4,5] (bs9 b j);unfold bs9;rw[cB3 ab]<;>rfl)
   have q1:=dTt h1;refine rT G _ h1 (wp_skip (b6 (wp_seq (wp_block (K7 G (x6 4 [0,1,31] (j8.lend (Z6 b (M6 b j+1+(nm b (M6 b j) naL-i2)) aiL (by simp[h0,h1]) al al) [.no,.no,.row 3])) [0,1,0,0,12,28,63,127,255] [0,1,2,3,4,6,55] [.box [.ref 1,iA (M6 b j+1+(nm b (M6 b j) naL-i2)+1)],dY b,X0,.box [.ref 4,.ref 6,.tref 5],.row 3 (D.ints (vsD b j)),.tree (D.stmts []),.row 3 (D.ints (nsD b aiL (nm b (M6 b j) naL-i2).toNat (M6 b j+1)++([nm b (M6 b j+1+(nm b (M6 b j) naL-i2)) aiL]++[])))] [(0,.ptr 0 0),(2,.ptr 2 0),(3,.ptr 3 0),(5,iA i2)] (aP ((nsD b aiL (nm b (M6 b j) naL-i2).toNat (M6 b j+1)).length+([nm b (M6 b j+1+(nm b (M6 b j) naL-i2)) aiL]++[]).length) 8 []) (aK (by simp only[cE0,cE5,cE9,ao1];omega) cF1) fun G=>m8 (b6 (H0 G f8 [(5,iA (i2-1))] [wO (i2-1)] (o1 al) fun G=>b6 ?_)))))));exact P7 G (i2-1) al al [0,1,2,3,4,6,5] (by have e1:(M6 b j+1+(nm b (M6 b j) naL-(i2-1)):Int)=(M6 b j+1+(nm b (M6 b j) naL-i2)+1):=al;have e2:(nsD b aiL (nm b (M6 b j) naL-(i2-1)).toNat (M6 b j+1):List Int)=(nsD b aiL (nm b (M6 b j) naL-i2).toNat (M6 b j+1)++([nm b (M6 b j+1+(nm b (M6 b j) naL-i2)) aiL]++[])):=(bw8 al al);(first|rw[e1,e2]|simp only[e1,e2])<;>rfl)
  have q0:=dTt h0;refine rT G _ h0 (wp_skip (b6 (wp_seq (wp_block (K7 G (x6 4 [0,1,29] (j8.lend (Z6 b (j+1+(nm b j nvL-i)) viL (by simp[h0]) al al) [.no,.no,.row 3])) [0,1,0,0,12,28,63,127,255] [0,1,2,3,53] [.box [.ref 1,iA (j+1+(nm b j nvL-i)+1)],dY b,X0,a83,.row 3 (D.ints (nsD b viL (nm b j nvL-i).toNat (j+1)++([nm b (j+1+(nm b j nvL-i)) viL]++[])))] [(0,.ptr 0 0),(2,.ptr 2 0),(3,.ptr 3 0),(4,iA i)] (aP ((nsD b viL (nm b j nvL-i).toNat (j+1)).length+([nm b (j+1+(nm b j nvL-i)) viL]++[]).length) 8 []) (aK (by simp only[cE0,cE5,cE9,ao1];omega) cF1) fun G=>m8 (b6 (H0 G f8 [(4,iA (i-1))] [wO (i-1)] (o1 al) fun G=>b6 ?_)))))));exact P7 G (i-1) al al (rg 5) (by have e1:(j+1+(nm b j nvL-(i-1)):Int)=(j+1+(nm b j nvL-i)+1):=al;have e2:(nsD b viL (nm b j nvL-(i-1)).toNat (j+1):List Int)=(nsD b viL (nm b j nvL-i).toNat (j+1)++([nm b (j+1+(nm b j nvL-i)) viL]++[])):=(bw8 al al);(first|rw[e1,e2]|simp only[e1,e2])<;>rfl)
section
variable{b:List UInt8}{p:i6}{j:Int}
end
def ax6(k v r:Int):d9:=if k=3 then⟨4,r,v,r,0⟩else if k=11 then⟨7,r,r,r+1,r+2⟩else⟨6,r,k,r,r+1⟩
mutual
def d7:c7->Int->List d9
 |⟨k,v,ks⟩,r=>if k=1 then [⟨1,r,v,0,0⟩]else if k=2 then [⟨2,r,v,0,0⟩]else n5 ks r++[ax6 k v r]
def n5:List c7->Int->List d9
 |[],_=>[]
 |e::t,r=>d7 e r++n5 t (r+1)
end
theorem ap2(e:c7)(r:Int):d7 e r=if e.kind=1 then [⟨1,r,e.value,0,0⟩]else if e.kind=2 then [⟨2,r,e.value,0,0⟩]else n5 e.kids r++[ax6 e.kind e.value r]:=by cases e;rw[d7];rfl
theorem ar5:∀(a b:List c7) (r:Int),n5 (a++b) r=n5 a r++n5 b (r+a.length)
 |[],b,r=>by simp[n5]
 |e::t,b,r=>by
  simp only[List.cons_append,n5,cI0]
  rw[ar5 t b (r+1)]
  congr 2
  simp only[cE5]
  rw[show r+1+(t.length:Int)=r+((t.length+1:Nat):Int) by omega]
theorem aE3{ks:List c7}{k:Nat}{r:Int}(hk:k<ks.length):n5 (ks.take (k+1)) r=n5 (ks.take k) r++d7 (ks.getD k cD4) (r+k):=by
 rw[o0 _ _ hk,ar5,m6 hk]
 simp[n5,List.length_take,Nat.min_eq_left (Nat.le_of_lt hk)]
mutual
theorem ab1:∀(e:c7) (r:Int),(d7 e r).length<=1+C0 e
 |⟨k,v,ks⟩,r=>by
  have h:=ah9 ks r
  rw[d7]
  simp only[C0]
  split
  ·simp
  split
  ·simp
  simp only[cE0,cE5,cE9];omega
theorem ah9:∀(ks:List c7) (r:Int),(n5 ks r).length<=G5 ks
 |[],_=>by simp[n5]
 |e::t,r=>by
  have h1:=ab1 e r
  have h2:=ah9 t (r+1)
  simp only[n5,G5,cE0];omega
end
abbrev M0:Type:=List d9×List Int×Int
def J7(x:M0)(n:Int)(c:List d9):M0:=(x.1++c,x.2.1++cD6 c.length n,x.2.2)
def bM5(l:List d9)(i:Nat)(n:Int):List d9:=l.set i ⟨(l.getD i cD4).op,(l.getD i cD4).a,n,(l.getD i cD4).c,(l.getD i cD4).d⟩
def cc3(l:List d9)(i:Nat)(n:Int):List d9:=l.set i ⟨(l.getD i cD4).op,n,(l.getD i cD4).b,(l.getD i cD4).c,(l.getD i cD4).d⟩
mutual
def U5:c6->Int->M0->M0
 | ⟨k, t, i, v, c, b, e⟩, d, x =>
  if k=4 then J7 (t5 b (d+1) (J7 (x.1,x.2.1,x.2.2+1) x.2.2 [⟨1,9+d,c,0,0⟩])) x.2.2 [⟨10,9+d,((x.1.length+1:Nat):Int),0,0⟩]
  else if k=1 then J7 (J7 (x.1,x.2.1,x.2.2+1) x.2.2 (d7 v 0)) x.2.2 [⟨3,t,0,0,0⟩]
  else if k=5 then J7 (J7 (J7 (x.1,x.2.1,x.2.2+1) x.2.2 (d7 v 0)) x.2.2 [⟨11,0,0,0,0⟩]) x.2.2 [⟨3,t,0,0,0⟩]
  else if k=2 then J7 (J7 (J7 (x.1,x.2.1,x.2.2+1) x.2.2 (d7 v 0)) x.2.2 (d7 i 1)) x.2.2 [⟨5,t,1,0,0⟩]
  else
   (fun(y:M0)=>
    (fun(z:M0)=>
     (fun(u:M0)=>(cc3 u.1 (z.1.length-1) (u.1.length:Int),u.2)) (t5 e (d+1) (bM5 z.1 y.1.length (z.1.length:Int),z.2)))
    (J7 (t5 b (d+1) (J7 y x.2.2 [⟨9,0,0,0,0⟩])) x.2.2 [⟨8,0,0,0,0⟩]))
   (J7 (x.1,x.2.1,x.2.2+1) x.2.2 (d7 v 0))
def t5:List c6->Int->M0->M0
 |[],_,x=>x
 |s::r,d,x=>t5 r d (U5 s d x)
end
theorem bo7(a b:List c6)(d:Int)(x:M0):t5 (a++b) d x=t5 b d (t5 a d x):=by
 induction a generalizing x with
 |nil=>rfl
 |cons s r ih=>simp only[List.cons_append,t5];exact ih _
theorem aQ3{ss:List c6}{k:Nat}{d:Int}{x:M0}(hk:k<ss.length):t5 (ss.take (k+1)) d x=U5 (ss.getD k cD4) d (t5 (ss.take k) d x):=by
 rw[o0 _ _ hk,bo7,m6 hk]
 simp[t5]
mutual
def bE8:c6->Nat
 |⟨k,_,i,v,_,b,e⟩=>if k=4 then 2+aS8 b else if k=1 then(d7 v 0).length+1 else if k=5 then(d7 v 0).length+2 else if k=2 then(d7 v 0).length+(d7 i 1).length+1 else(d7 v 0).length+2+aS8 b+aS8 e
def aS8:List c6->Nat
 |[]=>0
 |s::r=>bE8 s+aS8 r
end
mutual
theorem b38:∀(s:c6) (d:Int) (x:M0),(U5 s d x).1.length=x.1.length+bE8 s/\(U5 s d x).2.1.length=x.2.1.length+bE8 s
 | ⟨k, t, i, v, c, b, e⟩, d, x => by
  rw[U5,bE8]
  split
  ·have h:=P4 b (d+1) (J7 (x.1,x.2.1,x.2.2+1) x.2.2 [⟨1,9+d,c,0,0⟩])
   simp only[J7,cE0,cE5,cE9,cF8]at h ⊢
   omega
  split
  ·simp only[J7,cE0,cE5,cE9,cF8];omega
  split
  ·simp only[J7,cE0,cE5,cE9,cF8];omega
  split
  ·simp only[J7,cE0,cE5,cE9,cF8];omega
  simp only
  generalize hy:J7 (x.1,x.2.1,x.2.2+1) x.2.2 (d7 v 0)=y
  have hy1:y.1.length=x.1.length+(d7 v 0).length:=by rw[<-hy];simp[J7]
  have hy2:y.2.1.length=x.2.1.length+(d7 v 0).length:=by rw[<-hy];simp[J7]
  have h1:=P4 b (d+1) (J7 y x.2.2 [⟨9,0,0,0,0⟩])
  generalize t5 b (d+1) (J7 y x.2.2 [⟨9,0,0,0,0⟩])=z at h1 ⊢
  have h2:=P4 e (d+1) (bM5 (J7 z x.2.2 [⟨8,0,0,0,0⟩]).1 y.1.length ((J7 z x.2.2 [⟨8,0,0,0,0⟩]).1.length:Int),(J7 z x.2.2 [⟨8,0,0,0,0⟩]).2)
  simp only[J7,cc3,bM5,cG4,cE0,cE5,cE9,cF8]at h1 h2 ⊢
  omega
theorem P4:∀(ss:List c6) (d:Int) (x:M0),(t5 ss d x).1.length=x.1.length+aS8 ss/\(t5 ss d x).2.1.length=x.2.1.length+aS8 ss
 |[],_,_=>⟨rfl,rfl⟩
 |s::r,d,x=>by
  have h1:=b38 s d x
  have h2:=P4 r d (U5 s d x)
  rw[t5,aS8]
  omega
end
mutual
theorem b36:∀s:c6,bE8 s<=4+4*N5 s
 |⟨k,t,i,v,c,b,e⟩=>by
  have h1:=ab1 v 0
  have h2:=ab1 i 1
  have h3:=T2 b
  have h4:=T2 e
  rw[bE8]
  simp only[N5]
  (repeat' split)<;>omega
theorem T2:∀ss:List c6,aS8 ss<=4*j6 ss
 |[]=>cG8 _
 |s::r=>by
  have h1:=b36 s
  have h2:=T2 r
  simp only[aS8,j6];omega
end
section
variable{P:Program}{ι κ:Type}{φ ψ:Nat->Prop}{w0 w:World}{F:ι->Rs}{ρ ρ0:Nat->Value}{N m n:Nat}{S:List It}{tm:List (Nat×AV)}{a:Act}
def aW6(n:Nat):List Ln:=cD6 n .no++[.tree]
theorem bc7(n i:Nat):B6 (aW6 n) i=if i=n then .tree else .no:=by
 unfold B6 aW6
 rw[cD7]
 rcases Nat.lt_trichotomy i n with h|h|h
 ·rw[cF2 (by simpa using h),if_neg al]
  simp[cH8,h]
 ·subst h;simp
 rw[cF6 ah,if_neg al];rfl
theorem j8.datPost{f:FuncId}{args:List AV}{S0 S:List It}{d:D}{res:AV}(hc:j8.ok P ⟨f,args,S0,S++[.tree d],res⟩)(res1:AV)(hr:res=res1.tr (aW6 S.length):=by kernel_rfl)(hk:(decide (S0.length<=S.length)&&(res1.trOk (aW6 S.length)&&S.all fun x=>x.ids.isEmpty))=true:=by kernel_rfl):j8.ok P ⟨f,args,S0,S++[.dat d],res1⟩:=by
 simp only[cD5,decide_eq_true_eq]at hk
 obtain⟨hl0,hk⟩:=hk
 subst hr
 intro ι φ ψ w0 w F ρ M
 refine(hc ι φ ψ w0 w F ρ M).mono ?_
 rintro x w' ⟨ρ',h1,rfl,M2⟩
 let ρ1:Nat->Value:=fun i=>if(B6 (aW6 S.length) i).isT then E5 (ρ' i)else ρ' i
 have hρ1:∀i,ρ1 i=if(B6 (aW6 S.length) i).isT then E5 (ρ' i)else ρ' i:=fun _=>rfl
 have hne:∀i,i≠S.length->ρ1 i=ρ' i:=fun i hi=>by rw[hρ1,bc7,if_neg hi];rfl
 have heq:ρ1 S.length=E5 (ρ' S.length):=by rw[hρ1,bc7,if_pos rfl];rfl
 refine⟨ρ1,fun i hi=>by rw[hne i (by simp only at hi;omega)];exact h1 i hi,by rw[AV.val_tr hρ1 res1 hk.1],?_⟩
 refine M2.release fun k=>?_
 cases k with
 |inl i=>exact .inl rfl
 | inr j =>
  simp only[s4]
  rcases Nat.lt_trichotomy j S.length with hj|hj|hj
  ·have e1:t2 (S++[.dat d]) j=t2 S j:=by simp[t2,cD7,cF2 hj]
   have e2:t2 (S++[.tree d]) j=t2 S j:=by simp[t2,cD7,cF2 hj]
   rw[e1,e2]
   left
   have h2:(t2 S j).ids=[]:=by
    have h3:=cE2.1 hk.2 _ (cF3 hj)
    rw[am1 hj]
    simpa using h3
   exact It.res_congr _ (fun i hi=>by rw[h2]at hi;cases hi) (.inr (.inr (hne j al)))
  ·subst hj
   have e1:t2 (S++[.dat d]) S.length=.dat d:=by simp[t2,cD7]
   have e2:t2 (S++[.tree d]) S.length=.tree d:=by simp[t2,cD7]
   rw[e1,e2]
   refine .inr ⟨fun b hb=>hb,fun φ' hf hown=>⟨RD.nice _ _,?_⟩⟩
   have hh:=M2.holds (.inr S.length)
   simp only[s4]at hh
   rw[e2]at hh
   rw[heq]
   exact E4.read hh.2.1 fun b hb=>hown b (by rw[show(It.tree d).res ρ' S.length=Rs.own (A9 (ρ' S.length)) _ from rfl];exact hb)
  rw[y8 ah,y8 ah];exact .inl rfl
theorem x7.heal(G:x7 φ ψ w0 F N m ρ0 ρ S tm a w)(id k i:Nat)(l:List (List Int))(r:List Int)(S1:List It)(h1:t2 S id=.hole k i l:=by kernel_rfl)(h2:t2 S k=.row 3 (.ints r):=by kernel_rfl)(hS:S1=(S.set id (.tree (.rows (l.set i r)))).set k .dead:=by kernel_rfl):x7 φ ψ w0 F N m ρ0 ρ S1 tm a w:=by
 subst hS
 have hid:id<S.length:=by
  rcases cF9 id S.length with h|h
  ·exact h
  rw[y8 h]at h1;cases h1
 have hk:k<S.length:=by
  rcases cF9 k S.length with h|h
  ·exact h
  rw[y8 h]at h2;cases h2
 have hne:id≠k:=fun e=>by rw[e,h2]at h1;cases h1
 have hlen:((S.set id (.tree (.rows (l.set i r)))).set k .dead).length=S.length:=an
 have hat:∀j,t2 ((S.set id (.tree (.rows (l.set i r)))).set k .dead) j=if j=k then .dead else if j=id then .tree (.rows (l.set i r))else t2 S j:=fun j=>by
  simp only[t2,cD7,cH9]
  by_cases e1:k=j
  ·subst e1;simp[hk]
  have e1':¬j=k:=fun h=>e1 h.symm
  by_cases e2:id=j
  ·subst e2;simp[hid,e1,e1']
  have e2':¬j=id:=fun h=>e2 h.symm
  simp[e1,e1',e2,e2']
 refine⟨G.size,G.defs,G.tmv,fun t x hx q hq=>by rw[hlen];exact G.tmi t x hx q hq,fun j=>⟨fun q hq=>?_,fun hj=>?_⟩,?_,by rw[hlen];exact G.le,G.old⟩
 ·rw[hat]at hq
  rw[hlen]
  split at hq
  ·cases hq
  split at hq
  ·cases hq
  exact(G.bd j).1 q hq
 ·rw[hlen]at hj
  rw[hat,if_neg al,if_neg al]
  exact y8 hj
 have M:=G.mem
 have hh:=M.holds (.inr id)
 have hr:=M.holds (.inr k)
 have l1:s4 F ρ (t2 S) (.inr id)=.own (fun b=>A9 (ρ id) b/\(ρ k).ownBlock≠some b) fun w=>ay8 w (A9 (ρ id)) i l (ρ k) (E5 (ρ id)):=by simp only[s4,h1,It.res]
 have l2:s4 F ρ (t2 S) (.inr k)=.row 3 1 (ρ k) r.length fun xs w φ=>RW w φ (.ints r) xs:=by simp only[s4,h2,It.res,D.sz,D.len]
 rw[l1]at hh
 rw[l2]at hr
 obtain⟨_,hO,hlt⟩:=hh
 obtain⟨_,xs,o1,o2⟩:=hr
 have hxs:xs=ints r:=bv5 (by have:=o1.1;simpa using this) o2
 subst hxs
 have hT:=hO.back o1
 have hu:∀g,(ρ k).ownBlock=some g->A9 (ρ id) g:=by
  obtain⟨ys,S',_,_,q3,q4,q5,_,q2,_⟩:=hO
  obtain⟨u',a',_,c⟩:=q2 i q5
  rw[q4]at a';cases a'
  exact fun g hg=>q3 g (c g hg)
 have m1:s4 F ρ (t2 ((S.set id (.tree (.rows (l.set i r)))).set k .dead)) (.inr id)=.own (A9 (ρ id)) fun w=>E4 w (A9 (ρ id)) (.rows (l.set i r)) (E5 (ρ id)):=by simp only[s4,hat,if_neg hne,if_true,It.res]
 have m2:s4 F ρ (t2 ((S.set id (.tree (.rows (l.set i r)))).set k .dead)) (.inr k)=Rs.none:=by simp only[s4,hat,if_true,It.res]
 have m3:∀q,q≠ .inr id->q≠ .inr k->s4 F ρ (t2 ((S.set id (.tree (.rows (l.set i r)))).set k .dead)) q=s4 F ρ (t2 S) q:=fun q e1 e2=>by
  cases q with
  |inl _=>rfl
  |inr j=>simp only[s4,hat,if_neg (show ¬j=k from fun e=>e2 (by rw[e])),if_neg (show ¬j=id from fun e=>e1 (by rw[e]))]
 generalize s4 F ρ (t2 ((S.set id (.tree (.rows (l.set i r)))).set k .dead))=L' at*
 have org:∀q b,(L' q).blk b->(q=.inr id/\((s4 F ρ (t2 S) (.inr id)).blk b\/(s4 F ρ (t2 S) (.inr k)).blk b))\/(q≠ .inr id/\q≠ .inr k/\(s4 F ρ (t2 S) q).blk b):=fun q b hb=>by
  by_cases e1:q=.inr id
  ·subst e1
   rw[m1]at hb
   refine .inl ⟨rfl,?_⟩
   rw[l1,l2]
   by_cases e:(ρ k).ownBlock=some b
   ·exact .inr e
   exact .inl ⟨hb,e⟩
  by_cases e2:q=.inr k
  ·subst e2;rw[m2]at hb;exact hb.elim
  rw[m3 q e1 e2]at hb;exact .inr ⟨e1,e2,hb⟩
 refine M.re (fun q b hb=>?_) (fun p q g hpq h1 h2=>?_) fun q=>?_
 ·rcases org q b hb with⟨_,h|h⟩|⟨_,_,h⟩
  ·exact⟨_,h⟩
  ·exact⟨_,h⟩
  exact⟨_,h⟩
 ·rcases org p g h1 with⟨e1,f1⟩|⟨e1,e1',f1⟩
  ·rcases org q g h2 with⟨e2,f2⟩|⟨e2,e2',f2⟩
   ·exact hpq (e1.trans e2.symm)
   rcases f1 with f1|f1
   ·exact M.dis _ _ g (fun e=>e2 e.symm) f1 f2
   exact M.dis _ _ g (fun e=>e2' e.symm) f1 f2
  rcases org q g h2 with⟨e2,f2⟩|⟨e2,e2',f2⟩
  ·rcases f2 with f2|f2
   ·exact M.dis _ _ g e1 f1 f2
   exact M.dis _ _ g e1' f1 f2
  exact M.dis _ _ g hpq f1 f2
 by_cases e1:q=.inr id
 ·subst e1
  right;intro φ';rw[m1]
  refine⟨fun _ _ h hs=>h.same hs,hT,fun b hb=>?_⟩
  by_cases e:(ρ k).ownBlock=some b
  ·exact(World.ownsRow.lt o1 b e).2
  exact hlt b ⟨hb,e⟩
 by_cases e2:q=.inr k
 ·subst e2
  right;intro φ';rw[m2];exact Rs.none_holds _ _
 exact .inl (m3 q e1 e2)
theorem x7.heal0(G:x7 φ ψ w0 F N m ρ0 ρ S tm a w)(id k i:Nat)(l:List (List Int))(S1:List It)(h1:t2 S id=.hole k i l:=by kernel_rfl)(h2:t2 S k=.row 3 (.ints (l.getD i [])):=by kernel_rfl)(hS:S1=(S.set id (.tree (.rows l))).set k .dead:=by kernel_rfl):x7 φ ψ w0 F N m ρ0 ρ S1 tm a w:=by
 refine G.heal id k i l (l.getD i []) S1 h1 h2 ?_
 have e:l.set i (l.getD i [])=l:=by
  apply List.ext_getElem?
  intro j
  rw[cH9]
  by_cases h:i=j
  ·subst h
   rw[if_pos rfl]
   by_cases h2:i<l.length
   ·simp[h2]
   simp[h2]
  rw[if_neg h]
 rw[e];exact hS
theorem It.res_ren'{σ:Nat->Nat}{i j:Nat}{ρ:Nat->Value}(x:It)(h:σ i=j):(x.ren σ).res ρ j=x.res (fun i=>ρ (σ i)) i:=by
 subst h;exact It.res_ren x
def mv(i n j:Nat):Nat:=if natEq j i then n else j
theorem aN6{f:AV->AV}{t:Nat}{y:AV}:∀{tm:List (Nat×AV)},C5 (tm.map fun p=>(p.1,f p.2)) t=some y->∃x,C5 tm t=some x/\y=f x
 |[],h=>by cases h
 |(k,z)::r,h=>by
  simp only[C5,cH1]at h ⊢
  split at h
  ·rename_i hk;cases h;exact⟨z,by rw[if_pos hk],rfl⟩
  rename_i hk
  obtain⟨x,h1,h2⟩:=aN6 h
  exact⟨x,by rw[if_neg hk];exact h1,h2⟩
theorem cf0{i n:Nat}{x:AV}:∀j∈(x.ren (mv i n)).ids,(∃k∈x.ids,mv i n k=j):=by
 have key:(∀x:AV,∀j∈(x.ren (mv i n)).ids,∃k∈x.ids,mv i n k=j)/\(∀l:List AV,∀j∈AV.idsL (AV.renL (mv i n) l),∃k∈AV.idsL l,mv i n k=j):=by
  have hL:∀(l:List AV),(∀x∈l,∀j∈(x.ren (mv i n)).ids,∃k∈x.ids,mv i n k=j)->∀j∈AV.idsL (AV.renL (mv i n) l),∃k∈AV.idsL l,mv i n k=j:=by
   intro l
   induction l with
   |nil=>intro _ j hj;cases hj
   | cons y r ih =>
    intro h j hj
    simp only[AV.renL,AV.idsL,cG2]at hj ⊢
    rcases hj with hj|hj
    ·obtain⟨k,h1,h2⟩:=h y cH7 j hj
     exact⟨k,.inl h1,h2⟩
    obtain⟨k,h1,h2⟩:=ih (fun x hx=>h x (cH5 _ hx)) j hj
    exact⟨k,.inr h1,h2⟩
  have hx:∀x:AV,∀j∈(x.ren (mv i n)).ids,∃k∈x.ids,mv i n k=j:=fun x=>goX hL x
  exact⟨hx,fun l=>hL l fun x _=>hx x⟩
 exact key.1 x
where
 goX {i n:Nat} (hL:∀(l:List AV),(∀x∈l,∀j∈(x.ren (mv i n)).ids,∃k∈x.ids,mv i n k=j)->∀j∈AV.idsL (AV.renL (mv i n) l),∃k∈AV.idsL l,mv i n k=j):∀x:AV,∀j∈(x.ren (mv i n)).ids,∃k∈x.ids,mv i n k=j
  |.v _,j,hj=>by cases hj
  |.ptr a b,j,hj=>⟨a,cG7.2 rfl,(cG7.1 hj).symm⟩
  |.ea a b c d,j,hj=>⟨a,cG7.2 rfl,(cG7.1 hj).symm⟩
  |.ref a,j,hj=>⟨a,cG7.2 rfl,(cG7.1 hj).symm⟩
  |.tref a,j,hj=>⟨a,cG7.2 rfl,(cG7.1 hj).symm⟩
  |.agg l,j,hj=>hL l (fun x _=>goX hL x) j hj
  |.tup l,j,hj=>hL l (fun x _=>goX hL x) j hj
  |.fn _ l,j,hj=>hL l (fun x _=>goX hL x) j hj
  |.bm _ l,j,hj=>hL l (fun x _=>goX hL x) j hj
theorem x7.shift(G:x7 φ ψ w0 F N m ρ0 ρ S tm a w)(i n:Nat)(S1:List It)(tm1:List (Nat×AV))(hn:(natEq S.length n&&decide (i<n))=true:=by kernel_rfl)(hS:S1=(S.map (It.ren (mv i n))).set i .dead++[(t2 S i).ren (mv i n)]:=by kernel_rfl)(ht:tm1=tm.map (fun p=>(p.1,p.2.ren (mv i n))):=by kernel_rfl):
  ∃ρ',x7 φ ψ w0 F N m ρ0 ρ' S1 tm1 a w:=by
 subst hS
 subst ht
 simp only[cD5,natEq,beq_iff_eq,decide_eq_true_eq]at hn
 obtain⟨hn,hin⟩:=hn
 have hlen:((S.map (It.ren (mv i n))).set i .dead++[(t2 S i).ren (mv i n)]).length=n+1:=by simp[hn]
 have hat:∀j,t2 ((S.map (It.ren (mv i n))).set i .dead++[(t2 S i).ren (mv i n)]) j=if j=n then(t2 S i).ren (mv i n)else if j=i then .dead else(t2 S j).ren (mv i n):=fun j=>by
  by_cases e:j=n
  ·subst e
   rw[if_pos rfl]
   simp only[t2,cD7]
   rw[cH0 (by simp[hn])]
   simp[hn]
  rw[if_neg e]
  by_cases e2:j=i
  ·subst e2
   rw[if_pos rfl]
   simp only[t2,cD7]
   rw[cF2 ah]
   simp[show j<S.length by omega]
  rw[if_neg e2]
  simp only[t2,cD7]
  rcases cF9 j n with h|h
  ·rw[cF2 ah,List.getElem?_set_ne (fun h=>e2 h.symm),List.getElem?_map,cD8 al]
   rfl
  rw[cF6 ah,cF6 al];rfl
 have hbd:∀x:AV,(∀j∈x.ids,j<n)->∀j∈(x.ren (mv i n)).ids,j<n+1:=fun x h j hj=>by
  obtain⟨k,h1,h2⟩:=cf0 j hj
  have:=h k h1
  rw[<-h2];unfold mv
  split<;>omega
 let ρ1:Nat->Value:=fun j=>if j=n then ρ i else ρ j
 have hmv:∀j,j<n->ρ1 (mv i n j)=ρ j:=fun j hj=>by
  show(if mv i n j=n then ρ i else ρ (mv i n j))=ρ j
  by_cases e:j=i
  ·subst e;simp[mv,natEq]
  have h:mv i n j=j:=by simp[mv,natEq,e]
  rw[h,if_neg al]
 have hval:∀x:AV,(∀j∈x.ids,j<n)->(x.ren (mv i n)).val ρ1=x.val ρ:=fun x h=>by
  rw[AV.val_ren]
  exact AV.val_congr x fun j hj=>hmv j (h j hj)
 have hids:∀j,∀q∈(t2 S j).ids,q<n:=fun j q hq=>by have:=(G.bd j).1 q hq;omega
 have hitem:∀j,∀q∈((t2 S j).ren (mv i n)).ids,q<n+1:=fun j q hq=>by
  cases hx:t2 S j with
  |box cs=>
   rw[hx]at hq
   have h1:=hids j
   rw[hx]at h1
   exact hbd (.agg cs) h1 q hq
  |hole k d ls=>
   rw[hx]at hq
   have h1:=hids j
   rw[hx]at h1
   exact hbd (.ref k) h1 q hq
  |_=>rw[hx]at hq;cases hq
 refine⟨ρ1,G.size,G.defs,fun t y hy=>?_,fun t y hy j hj=>?_,fun j=>⟨fun q hq=>?_,fun hj=>y8 hj⟩,?_,?_,fun j hj=>?_⟩
 ·obtain⟨x,h1,rfl⟩:=aN6 hy
  rw[G.tmv t x h1,hval x fun j hj=>by have:=G.tmi t x h1 j hj;omega]
 ·obtain⟨x,h1,rfl⟩:=aN6 hy
  rw[hlen]
  exact hbd x (fun j hj=>by have:=G.tmi t x h1 j hj;omega) j hj
 ·rw[hlen]
  rw[hat]at hq
  split at hq
  ·exact hitem i q hq
  split at hq
  ·cases hq
  exact hitem j q hq
 ·refine G.mem.map (fun k:ι ⊕ Nat=>(match k with|.inl q=>some (.inl q)|.inr j=>if j=n then some (.inr i)else if j=i then none else some (.inr j):Option (ι ⊕ Nat))) ?_ ?_
  ·intro k k' x h1 h2
   match k,k' with
   |.inl q,.inl q'=>simp at h1 h2;rw[<-h1]at h2;simpa using h2.symm
   |.inl q,.inr j=>simp at h1;subst h1;simp at h2;split at h2<;>simp at h2
   |.inr j,.inl q=>simp at h2;subst h2;simp at h1;split at h1<;>simp at h1
   | .inr j, .inr j' =>
    simp only at h1 h2
    by_cases e1:j=n<;>by_cases e2:j'=n
    ·rw[e1,e2]
    ·rw[if_pos e1]at h1
     rw[if_neg e2]at h2
     by_cases e3:j'=i
     ·rw[if_pos e3]at h2;cases h2
     rw[if_neg e3]at h2
     simp at h1 h2
     rw[<-h1]at h2
     exact absurd (Sum.inr.inj h2) e3
    ·rw[if_pos e2]at h2
     rw[if_neg e1]at h1
     by_cases e3:j=i
     ·rw[if_pos e3]at h1;cases h1
     rw[if_neg e3]at h1
     simp at h1 h2
     rw[<-h2]at h1
     exact absurd (Sum.inr.inj h1) e3
    rw[if_neg e1]at h1
    rw[if_neg e2]at h2
    by_cases e3:j=i
    ·rw[if_pos e3]at h1;cases h1
    by_cases e4:j'=i
    ·rw[if_pos e4]at h2;cases h2
    rw[if_neg e3]at h1
    rw[if_neg e4]at h2
    simp at h1 h2
    rw[<-h1]at h2
    rw[Sum.inr.inj h2]
  intro k
  match k with
  |.inl q=>exact .inl ⟨_,rfl,rfl⟩
  | .inr j =>
   by_cases e:j=n
   ·refine .inl ⟨.inr i,by simp[e],?_⟩
    simp only[s4]
    rw[hat,if_pos e]
    subst e
    have h1:mv i j i=j:=by simp[mv,natEq]
    rw[It.res_ren' (t2 S i) h1]
    exact It.res_congr _ (fun q hq=>hmv q (hids i q hq)) (.inr (.inr (hmv i hin)))
   by_cases e2:j=i
   ·refine .inr ?_
    simp only[s4]
    rw[hat,if_neg e,if_pos e2]
    rfl
   refine .inl ⟨.inr j,by simp[e,e2],?_⟩
   simp only[s4]
   rw[hat,if_neg e,if_neg e2]
   rcases cF9 j n with hj|hj
   ·have h1:mv i n j=j:=by simp[mv,natEq,e2]
    rw[It.res_ren' (t2 S j) h1]
    exact It.res_congr _ (fun q hq=>hmv q (hids j q hq)) (.inr (.inr (hmv j hj)))
   rw[y8 al];rfl
 ·have:=G.le;rw[hlen];omega
 have:=G.le
 show(if j=n then ρ i else ρ j)=ρ0 j
 rw[if_neg al];exact G.old j hj
end
abbrev rN(l:List d9):It:=.row 76 (.instrs l)
abbrev rI(l:List Int):It:=.row 3 (.ints l)
theorem I9(l:List d9)(fr:List Int)(at0 n o x y z u:Int)(h1:l.length<=8000000)(h2:fr.length<=8000000):j8.ok Tryz.prog ⟨146,[.agg [.ref 0,.ref 1,iA at0],iA n,.agg [iA o,iA x,iA y,iA z,iA u]],[rN l,rI fr],[.dead,.dead,rN (l++[⟨o,x,y,z,u⟩]),rI (fr++[n])],.agg [.ref 2,.ref 3,iA at0]⟩:=by
 refine D9 20 Tryz.func146 [.row 76 (D.instrs l),.row 3 (D.ints fr)] [(0,.agg [.ref 0,.ref 1,iA at0]),(1,iA n),(2,.agg [iA o,iA x,iA y,iA z,iA u])] fun G=>?_;refine wp_seq (j7 G f8 [0,1,2,10,18] [.row 76 (D.instrs l),.row 3 (D.ints fr),.box [.ref 0,.ref 1,iA at0],.box [iA o,iA x,iA y,iA z,iA u],.box [.v (.slice none 0 0),.v (.slice none 0 0),iA 0]] [(1,iA n),(3,.ptr 2 0),(5,.ptr 3 0),(6,.ptr 4 0)] fun G=>b6 (wp_seq (R9 G f8 [0,1,2,4,37] [.dead,.row 3 (D.ints fr),.box [.ref 4,.ref 1,iA at0],.box [.v (.slice none 0 0),.v (.slice none 0 0),iA 0],.row 76 (D.instrs (l++([d9.mk o x y z u]++[])))] [(1,iA n),(3,.ptr 2 0),(6,.ptr 3 0)] (aP (l.length+1) 40 []) (aK al cF1) fun G=>b6 (wp_seq (R9 G f8 [0,1,2,3,4,37] [.dead,.dead,.box [.ref 4,.ref 5,iA at0],.box [.v (.slice none 0 0),.v (.slice none 0 0),iA 0],.row 76 (D.instrs (l++([d9.mk o x y z u]++[]))),.row 3 (D.ints (fr++([n]++[])))] [(3,.ptr 2 0),(6,.ptr 3 0)] (aP (fr.length+1) 8 []) (aK al cF1) fun G=>b6 (wp_seq (j7 G f8 [0,1,3,4,5] [.dead,.dead,.box [.ref 3,.ref 4,iA at0],.row 76 (D.instrs (l++([d9.mk o x y z u]++[]))),.row 3 (D.ints (fr++([n]++[])))] [(6,.ptr 2 0)] fun G=>b6 (wp_ret ?_))))))));exact G7 G [0,1,3,4]
abbrev l7C(l:List d9)(fr:List Int)(at0 n:Int)(e:c7)(reg:Int):j8:=⟨195,[.agg [.ref 0,.ref 1,iA at0],iA n,eA e 2,iA reg],[rN l,rI fr,dE e.kids],[.dead,.dead,dE e.kids,rN (l++d7 e reg),rI (fr++cD6 (d7 e reg).length n)],.agg [.ref 3,.ref 4,iA at0]⟩
theorem ce1{e:c7}{r:Int}(k:e.kind=1):d7 e r=[⟨1,r,e.value,0,0⟩]:=by rw[ap2,if_pos k]
theorem ce2{e:c7}{r:Int}(k:e.kind=2):d7 e r=[⟨2,r,e.value,0,0⟩]:=by rw[ap2,if_neg al,if_pos k]
theorem an7(ks:List c7)(k:Nat):G5 (ks.take k)<=G5 ks/\(k<ks.length->G5 (ks.take k)+1+C0 (ks.getD k cD4)<=G5 ks)/\(ks.take k).length<=G5 (ks.take k):=by
 refine⟨?_,fun h=>?_,av6 _⟩
 ·have:=ad6 (ks.take k) (ks.drop k)
  rw[List.take_append_drop]at this
  omega
 have h1:=ad6 (ks.take (k+1)) (ks.drop (k+1))
 rw[List.take_append_drop,o0 _ _ h,ad6, <-m6 (d:=cD4) h]at h1
 simp only[G5]at h1
 omega
section
variable{e:c7}{l:List d9}{fr:List Int}{n reg:Int}{k:Nat}
theorem a03(e:c7):C0 e=G5 e.kids:=by cases e;rfl
theorem ch2(h0:0<=reg)(h1:reg+C0 e<=2000000)(hk:k<e.kids.length):0<=reg+(k:Int)/\reg+(k:Int)+C0 (e.kids.getD k cD4)<=2000000:=by
 have h2:=(an7 e.kids k).2.1 hk
 have h3:=(an7 e.kids k).2.2
 rw[List.length_take]at h3
 rw[a03]at h1
 omega
theorem ch3(h2:l.length+C0 e<=5000000)(hk:k<e.kids.length):(l++n5 (e.kids.take k) reg).length+C0 (e.kids.getD k cD4)<=5000000:=by
 have h3:=(an7 e.kids k).2.1 hk
 have h4:=ah9 (e.kids.take k) reg
 rw[a03]at h2
 rw[cE0]
 omega
theorem aB9(h2:l.length+C0 e<=5000000):(l++n5 (e.kids.take k) reg).length<=5000000:=by
 have h3:=(an7 e.kids k).1
 have h4:=ah9 (e.kids.take k) reg
 rw[a03]at h2
 rw[cE0]
 omega
theorem aQ6(h3:fr.length=l.length):(fr++cD6 (n5 (e.kids.take k) reg).length n).length=(l++n5 (e.kids.take k) reg).length:=by simp[h3]
theorem b40(hk:k<e.kids.length):l++n5 (e.kids.take (k+1)) reg=l++n5 (e.kids.take k) reg++d7 (e.kids.getD k cD4) (reg+(k:Int)):=by rw[aE3 hk,cI0]
theorem bT8(hk:k<e.kids.length):fr++cD6 (n5 (e.kids.take (k+1)) reg).length n=fr++cD6 (n5 (e.kids.take k) reg).length n++cD6 (d7 (e.kids.getD k cD4) (reg+(k:Int))).length n:=by
 rw[aE3 hk,cE0,cI0,List.replicate_append_replicate]
theorem bT7:l=l++n5 (e.kids.take 0) reg:=by simp[n5]
theorem bE9:fr=fr++cD6 (n5 (e.kids.take 0) reg).length n:=by simp[n5]
theorem bp0(k1:¬e.kind=1)(k2:¬e.kind=2)(hk:e.kids.length<=k){x:d9}(hx:ax6 e.kind e.value reg=x):l++d7 e reg=l++n5 (e.kids.take k) reg++[x]:=by
 rw[ap2,if_neg k1,if_neg k2,cF0 hk,hx,cI0]
theorem a56(k1:¬e.kind=1)(k2:¬e.kind=2)(hk:e.kids.length<=k):fr++cD6 (d7 e reg).length n=fr++cD6 (n5 (e.kids.take k) reg).length n++[n]:=by
 rw[ap2,if_neg k1,if_neg k2,cF0 hk,cI0,cE0,cE5,cE9,List.replicate_succ']
theorem la3(k:e.kind=3):ax6 e.kind e.value reg=⟨4,reg,e.value,reg,0⟩:=by rw[ax6,if_pos k]
theorem cC0(k:e.kind=11):ax6 e.kind e.value reg=⟨7,reg,reg,reg+1,reg+2⟩:=by rw[ax6,if_neg al,if_pos k]
theorem la0(k3:¬e.kind=3)(k:¬e.kind=11):ax6 e.kind e.value reg=⟨6,reg,e.kind,reg,reg+1⟩:=by rw[ax6,if_neg k3,if_neg k]
end
abbrev ae2(e:c7)(l:List d9)(fr:List Int)(n:Int)(reg:Int):List It:=[.dead,.dead,dE e.kids,.row 76 (D.instrs (l++d7 e reg)),.row 3 (D.ints (fr++cD6 (d7 e reg).length n))]
abbrev ab2(n:Int)(reg:Int)(r0:List (Nat×AV)):List (Nat×AV):=(1,iA n)::(3,iA reg)::(4,.ptr 3 0)::(6,.ptr 4 0)::(8,.ptr 5 0)::r0
abbrev aY6(e:c7)(at0:Int)(r0:List It):List It:=.dead::.dead::dE e.kids::.box [.ref 6,.ref 7,iA at0]::.box (eL e 2)::.box [.v (.slice none 0 0),.v (.slice none 0 0),iA 0]::r0
theorem bL0(e:c7)(ih:∀(u:c7),u∈e.kids->∀(l:List d9) (fr:List Int) (at0 n reg:Int),0<=reg->reg+C0 u<=2000000->l.length+C0 u<=5000000->fr.length=l.length->j8.ok Tryz.prog (l7C l fr at0 n u reg))(l:List d9)(fr:List Int)(at0 n reg:Int)(r0:0<=reg)(r1:reg+C0 e<=2000000)(r2:l.length+C0 e<=5000000)(r3:fr.length=l.length):j8.ok Tryz.prog (l7C l fr at0 n e reg):=by
  refine D9 82 Tryz.func195 [.row 76 (D.instrs l),.row 3 (D.ints fr),dE e.kids] [(0,.agg [.ref 0,.ref 1,iA at0]),(1,iA n),(2,eA e 2),(3,iA reg)] fun G=>?_
  have hlen:e.kids.length<=C0 e:=by cases e;exact av6 _
  refine wp_seq (j7 G f8 [0,1,2,3,11,19] [.row 76 (D.instrs l),.row 3 (D.ints fr),dE e.kids,.box [.ref 0,.ref 1,iA at0],.box (eL e 2),.box [.v (.slice none 0 0),.v (.slice none 0 0),iA 0]] (ab2 n reg []) fun G=>b6 (wp_seq (wp_seq (l6 G f8 [(11,iA e.kind)] fun G=>b6 (wp_block (wp_seq (l6 G f8 [(12,bA (e.kind==1))] fun G=>b6 (V3 G (fun h0 q0=>?_) fun h0 q0=>?_))))))))
  ·
   refine wp_seq (l6 G f8 [(21,bA (e.kind==2))] fun G=>b6 (V3 G (fun h1 q1=>?_) fun h1 q1=>?_))
   ·
    refine wp_skip (m8 (b6 (wp_seq (wp_seq (C6 G f8 (ab2 n reg [(9,iA 0)]) fun G=>b6 (wp_block ?_))))));obtain⟨ρ,G⟩:=G.shift 0 6 [.dead,.row 3 (D.ints fr),dE e.kids,.box [.ref 6,.ref 1,iA at0],.box (eL e 2),.box [.v (.slice none 0 0),.v (.slice none 0 0),iA 0],.row 76 (D.instrs l)] (ab2 n reg [(9,iA 0)]);obtain⟨ρ,G⟩:=G.shift 1 7 (aY6 e at0 [.row 76 (D.instrs l),.row 3 (D.ints fr)]) (ab2 n reg [(9,iA 0)]);replace G:=G.as (aY6 e at0 [.row 76 (D.instrs (l++n5 (cE3 0 e.kids) reg)),.row 3 (D.ints (fr++cD6 (n5 (cE3 0 e.kids) reg).length n))]) (ab2 n reg [(9,iA 0)]) (by have e1:(l++n5 (cE3 0 e.kids) reg:List d9)=(l):=bT7.symm;have e2:(fr++cD6 (n5 (cE3 0 e.kids) reg).length n:List Int)=(fr):=bE9.symm;(first|rw[e1,e2]|simp only[e1,e2])<;>rfl) aj;refine t9 (κ:=Nat) (fun k=>k<=e.kids.length) (fun k=>e.kids.length-k) (fun k=>[.dead,.dead,dE e.kids,.box [.ref 6,.ref 7,iA at0],.box (eL e 2),.box [.v (.slice none 0 0),.v (.slice none 0 0),iA 0],.row 76 (.instrs (l++n5 (e.kids.take k) reg)),.row 3 (.ints (fr++cD6 (n5 (e.kids.take k) reg).length n))]) (fun k=>[(1,iA n),(3,iA reg),(4,.ptr 3 0),(6,.ptr 4 0),(8,.ptr 5 0),(9,iA k)]) 0 al (x7.at G _ _) ?_;clear G;intro k ρ a w hp G;replace G:=x7.at G (aY6 e at0 [.row 76 (D.instrs (l++n5 (cE3 k e.kids) reg)),.row 3 (D.ints (fr++cD6 (n5 (cE3 k e.kids) reg).length n))]) (ab2 n reg [(9,iA k)]);refine wp_seq (wp_seq (l6 G f8 [(34,bA (decide ((k:Int)<e.kids.length)))] fun G=>b6 (rcD G (fun h2 q2=>?_) fun h2 q2=>?_)))
    ·
     refine wp_exit (t4 (t4 (t3 (b6 (wp_seq (wp_seq (l6 G f8 [(49,iA e.kind)] fun G=>b6 (wp_block (wp_seq (l6 G f8 [(50,bA (e.kind==3))] fun G=>b6 (V3 G (fun h3 q3=>?_) fun h3 q3=>?_)))))))))))
     ·
      refine wp_seq (l6 G f8 [(60,bA (e.kind==11))] fun G=>b6 (V3 G (fun h4 q4=>?_) fun h4 q4=>?_))
      · refine wp_skip (m8 (b6 (wp_seq (R9 G (x6 9 [6,7] (I9 (l++n5 (cE3 k e.kids) reg) (fr++cD6 (n5 (cE3 k e.kids) reg).length n) at0 n 6 reg e.kind reg (reg+1) (by have:=aB9 (k:=k) (reg:=reg) r2;have:=aQ6 (e:=e) (n:=n) (k:=k) (reg:=reg) r3;omega) (by have:=aB9 (k:=k) (reg:=reg) r2;have:=aQ6 (e:=e) (n:=n) (k:=k) (reg:=reg) r3;omega))) [0,1,2,5,80,81] [.dead,.dead,dE e.kids,.box [.ref 4,.ref 5,iA at0],.row 76 (D.instrs (l++n5 (cE3 k e.kids) reg++[d9.mk 6 reg e.kind reg (reg+1)])),.row 3 (D.ints (fr++cD6 (n5 (cE3 k e.kids) reg).length n++[n]))] [(8,.ptr 3 0)] [wO (reg+1)] (o1 al) fun G=>b6 (wp_ret ?_)))));exact G7 G [0,1,2,4,5] (by show _=mR [0,1,2,4,5] (ae2 e l fr n reg);unfold ae2;have e1:(l++d7 e reg:List d9)=(l++n5 (cE3 k e.kids) reg++[d9.mk 6 reg e.kind reg (reg+1)]):=(bp0 al al al (la0 al al));have e2:(fr++cD6 (d7 e reg).length n:List Int)=(fr++cD6 (n5 (cE3 k e.kids) reg).length n++[n]):=(a56 al al al);(first|rw[e1,e2]|simp only[e1,e2])<;>rfl)
      refine wp_seq (R9 G (x6 9 [6,7] (I9 (l++n5 (cE3 k e.kids) reg) (fr++cD6 (n5 (cE3 k e.kids) reg).length n) at0 n 7 reg reg (reg+1) (reg+2) (by have:=aB9 (k:=k) (reg:=reg) r2;have:=aQ6 (e:=e) (n:=n) (k:=k) (reg:=reg) r3;omega) (by have:=aB9 (k:=k) (reg:=reg) r2;have:=aQ6 (e:=e) (n:=n) (k:=k) (reg:=reg) r3;omega))) [0,1,2,3,4,5,6,7,80,81] [.dead,.dead,dE e.kids,.box [.ref 6,.ref 7,iA at0],.box (eL e 2),.box [.ref 8,.ref 9,iA at0],.dead,.dead,.row 76 (D.instrs (l++n5 (cE3 k e.kids) reg++[d9.mk 7 reg reg (reg+1) (reg+2)])),.row 3 (D.ints (fr++cD6 (n5 (cE3 k e.kids) reg).length n++[n]))] (ab2 n reg []) [wO (reg+1),wO (reg+2)] (o2 al) fun G=>b6 (wp_ret (A5 (l7 ?_))));exact G7 G [0,1,2,8,9] (by show _=mR [0,1,2,8,9] (ae2 e l fr n reg);unfold ae2;have e1:(l++d7 e reg:List d9)=(l++n5 (cE3 k e.kids) reg++[d9.mk 7 reg reg (reg+1) (reg+2)]):=(bp0 al al al (cC0 al));have e2:(fr++cD6 (d7 e reg).length n:List Int)=(fr++cD6 (n5 (cE3 k e.kids) reg).length n++[n]):=(a56 al al al);(first|rw[e1,e2]|simp only[e1,e2])<;>rfl)
     refine wp_seq (j7 G (x6 7 [6,7] (I9 (l++n5 (cE3 k e.kids) reg) (fr++cD6 (n5 (cE3 k e.kids) reg).length n) at0 n 4 reg e.value reg 0 (by have:=aB9 (k:=k) (reg:=reg) r2;have:=aQ6 (e:=e) (n:=n) (k:=k) (reg:=reg) r3;omega) (by have:=aB9 (k:=k) (reg:=reg) r2;have:=aQ6 (e:=e) (n:=n) (k:=k) (reg:=reg) r3;omega))) [0,1,2,3,4,5,6,7,64,65] [.dead,.dead,dE e.kids,.box [.ref 6,.ref 7,iA at0],.box (eL e 2),.box [.ref 8,.ref 9,iA at0],.dead,.dead,.row 76 (D.instrs (l++n5 (cE3 k e.kids) reg++[d9.mk 4 reg e.value reg 0])),.row 3 (D.ints (fr++cD6 (n5 (cE3 k e.kids) reg).length n++[n]))] (ab2 n reg []) fun G=>b6 (wp_ret (A5 (l7 ?_))));exact G7 G [0,1,2,8,9] (by show _=mR [0,1,2,8,9] (ae2 e l fr n reg);unfold ae2;have e1:(l++d7 e reg:List d9)=(l++n5 (cE3 k e.kids) reg++[d9.mk 4 reg e.value reg 0]):=(bp0 al al al (la3 al));have e2:(fr++cD6 (d7 e reg).length n:List Int)=(fr++cD6 (n5 (cE3 k e.kids) reg).length n++[n]):=(a56 al al al);(first|rw[e1,e2]|simp only[e1,e2])<;>rfl)
    refine wp_skip (b6 (wp_seq (wp_block (K7 G (x6 10 [6,7,56] (ih (e.kids.getD k cD4) (ax8 al) (l++n5 (cE3 k e.kids) reg) (fr++cD6 (n5 (cE3 k e.kids) reg).length n) at0 n (reg+(k:Int)) al ((ch2 r0 r1 al).2) (ch3 r2 al) (aQ6 r3))) [0,0,0,4,0,28,60,0,0,384,1023,2047] [0,1,2,3,4,5,88,89] (aY6 e at0 [.row 76 (D.instrs (l++n5 (cE3 k e.kids) reg++d7 (e.kids.getD k cD4) (reg+(k:Int)))),.row 3 (D.ints (fr++cD6 (n5 (cE3 k e.kids) reg).length n++cD6 (d7 (e.kids.getD k cD4) (reg+(k:Int))).length n))]) (ab2 n reg [(9,iA k)]) (iX k k e.kids.length ((wO (reg+(k:Int)))::[])) (iK al (o1 al)) fun G=>m8 (b6 (H0 G f8 [(9,iA ((k:Int)+1))] [wO ((k:Int)+1)] (o1 al) fun G=>b6 ?_))))));exact P7 G (k+1) al al (rg 8) (by have e1:(l++n5 (cE3 (k+1) e.kids) reg:List d9)=(l++n5 (cE3 k e.kids) reg++d7 (e.kids.getD k cD4) (reg+(k:Int))):=(b40 al);have e2:(fr++cD6 (n5 (cE3 (k+1) e.kids) reg).length n:List Int)=(fr++cD6 (n5 (cE3 k e.kids) reg).length n++cD6 (d7 (e.kids.getD k cD4) (reg+(k:Int))).length n):=(bT8 al);(first|rw[e1,e2]|simp only[e1,e2])<;>rfl)
   refine wp_seq (j7 G (x6 6 [0,1] (I9 l fr at0 n 2 reg e.value 0 0 al al)) [0,1,2,3,4,5,54,55] [.dead,.dead,dE e.kids,.box [.ref 0,.ref 1,iA at0],.box (eL e 2),.box [.ref 6,.ref 7,iA at0],.row 76 (D.instrs (l++[d9.mk 2 reg e.value 0 0])),.row 3 (D.ints (fr++[n]))] (ab2 n reg []) fun G=>b6 (wp_ret (A5 (l7 ?_))));exact G7 G [0,1,2,6,7] (by show _=mR [0,1,2,6,7] (ae2 e l fr n reg);unfold ae2;rw[ce2 al]<;>rfl)
  refine wp_seq (j7 G (x6 6 [0,1] (I9 l fr at0 n 1 reg e.value 0 0 al al)) [0,1,2,3,4,5,54,55] [.dead,.dead,dE e.kids,.box [.ref 0,.ref 1,iA at0],.box (eL e 2),.box [.ref 6,.ref 7,iA at0],.row 76 (D.instrs (l++[d9.mk 1 reg e.value 0 0])),.row 3 (D.ints (fr++[n]))] (ab2 n reg []) fun G=>b6 (wp_ret (A5 (l7 ?_))));exact G7 G [0,1,2,6,7] (by show _=mR [0,1,2,6,7] (ae2 e l fr n reg);unfold ae2;rw[ce1 al]<;>rfl)
theorem bg6(e:c7):∀(l:List d9) (fr:List Int) (at0 n reg:Int),0<=reg->reg+C0 e<=2000000->l.length+C0 e<=5000000->fr.length=l.length->j8.ok Tryz.prog (l7C l fr at0 n e reg):=
 c7.ind (P:=fun e=>∀(l:List d9) (fr:List Int) (at0 n reg:Int),0<=reg->reg+C0 e<=2000000->l.length+C0 e<=5000000->fr.length=l.length->j8.ok Tryz.prog (l7C l fr at0 n e reg)) (fun k v ks ih l fr at0 n reg r0 r1 r2 r3=>bL0 ⟨k,v,ks⟩ (fun u hu=>ih u hu) l fr at0 n reg r0 r1 r2 r3) e
theorem l9.sel{ι:Type}{φ ψ:Nat->Prop}{w0 w:World}{F:ι->Rs}{ρ:Nat->Value}{S S1:List It}{js:List Nat}(M:l9 φ ψ w0 w (s4 F ρ (t2 S)))(hn:js.Nodup)(hl:js.length=S1.length)(hS:js.map (t2 S)=S1.map (It.ren (nth js))):l9 φ ψ w0 w (s4 F (fun i=>ρ (nth js i)) (t2 S1)):=by
 refine M.map (fun k:ι ⊕ Nat=>(match k with|.inl i=>some (.inl i)|.inr i=>if i<js.length then some (.inr (nth js i))else none:Option (ι ⊕ Nat))) ?_ ?_
 ·intro k k' x h1 h2
  match k,k' with
  |.inl i,.inl i'=>simp at h1 h2;rw[<-h1]at h2;simpa using h2.symm
  |.inl i,.inr j=>simp only at h1 h2;cases h1;split at h2<;>simp at h2
  |.inr j,.inl i=>simp only at h1 h2;cases h2;split at h1<;>simp at h1
  |.inr j,.inr j'=>
   simp at h1 h2
   obtain⟨f1,f2⟩:=h1
   obtain⟨g1,g2⟩:=h2
   rw[<-f2]at g2
   have hj:=Sum.inr.inj g2
   have e1:=cD8 f1
   have e2:=cD8 g1
   rw[K8 e2,K8 e1]at hj
   have:=(List.getElem?_inj f1 hn).1 (e1.trans (by rw[<-hj];exact e2.symm))
   rw[this]
 intro k
 match k with
 |.inl i=>exact .inl ⟨_,rfl,rfl⟩
 | .inr i =>
  by_cases hlt:i<js.length
  ·refine .inl ⟨.inr (nth js i),by simp[hlt],?_⟩
   have h1:=congrArg (·[i]?) hS
   have hlt':i<S1.length:=al
   simp only[List.getElem?_map,cD8 hlt,cD8 hlt',Option.map_some,Option.some.injEq]at h1
   simp only[s4]
   rw[am1 hlt',K8 (cD8 hlt),h1, <-It.res_ren,K8 (cD8 hlt)]
  refine .inr ?_
  simp only[s4]
  rw[y8 al]
  rfl
theorem j8.nilArg{P:Program}{f:FuncId}{args args0:List AV}{pre post post':List It}{res res':AV}{e:TypeId}{d:D}(hc:j8.ok P ⟨f,args0,pre++[.row e d],post,res⟩)(k:Nat)(js:List Nat)(hd:D.nil k=some d)(ha:args=AV.denL false pre.length args0)(hid:(X4 pre.length (AV.idsL args)&&pre.all (fun x=>X4 pre.length x.ids)&&nodupB js&&natEq js.length post'.length&&b78 pre.length js)=true)(hS:js.map (t2 post)=post'.map (It.ren (nth js)))(hr:res=res'.ren (nth js)):j8.ok P ⟨f,args,pre,post',res'⟩:=by
 intro ι φ ψ w0 w F ρ M
 simp only[cD5,natEq,beq_iff_eq]at hid
 obtain⟨⟨⟨⟨h1,h2⟩,h3⟩,h4⟩,h5⟩:=hid
 have hz:=D.nil_len hd
 have hvals:=(AV.vals_den (ρ:=ρ) (t:=false) (n:=pre.length) (z:=.slice none 0 0) an args0 (by rw[<-ha];exact E3 h1)).1
 have hlt:∀j,j<pre.length->t2 (pre++[.row e d]) j=t2 pre j:=fun j hj=>by simp[t2,cD7,cF2 hj]
 have hids:∀j,∀i∈(t2 pre j).ids,i<pre.length:=fun j=>by
  by_cases hj:j<pre.length
  ·rw[am1 hj]
   exact E3 (cE2.1 h2 _ (cF3 hj))
  rw[y8 al];intro i hi;cases hi
 have M1:l9 φ ψ w0 w (s4 F (fun j=>if j=pre.length then .slice none 0 0 else ρ j) (t2 (pre++[.row e d]))):=by
  refine l9.put M (.inr pre.length) (fun k hk=>?_) (E8.refl _ _) ?_ ?_
  ·cases k with
   |inl i=>rfl
   | inr j =>
    simp only[s4]
    rcases Nat.lt_trichotomy j pre.length with h|h|h
    ·rw[hlt j h]
     exact It.res_congr _ (fun i hi=>if_neg (by have:=hids j i hi;omega)) (.inr (.inr (if_neg al)))
    ·exact absurd (by rw[h]) hk
    rw[y8 (show(pre++[It.row e d]).length<=j by simp;omega),y8 (show pre.length<=j by omega)];rfl
  ·have:t2 (pre++[.row e d]) pre.length=.row e d:=by simp[t2,cD7]
   simp only[s4,this,It.res,if_true]
   refine⟨fun xs=>RW.nice d xs,[],?_,RW.nil hz _⟩
   rw[hz];exact World.ownsRow_nil _ _ _ _
  intro g hg
  have:t2 (pre++[.row e d]) pre.length=.row e d:=by simp[t2,cD7]
  simp only[s4,this,It.res,if_true]at hg
  cases hg
 have h:=hc ι φ ψ w0 w F _ M1
 simp only[hvals, <-ha]at h
 refine h.mono ?_
 rintro x w' ⟨ρ2,g1,rfl,M2⟩
 have hk:∀i,i<pre.length->nth js i=i:=fun i hi=>by
  have:=cE2.1 h5 i (cH4.2 hi)
  simp only[cD5,natEq,beq_iff_eq]at this
  exact this.1
 refine⟨fun i=>ρ2 (nth js i),fun i hi=>?_,?_,M2.sel (at3 h3) h4 hS⟩
 ·have hi:i<pre.length:=hi
  simp only[hk i hi]
  rw[g1 i ah,if_neg al]
 show Ending.returned (res.val ρ2)=.returned (res'.val _)
 rw[hr,AV.val_ren]
def TF(z:Bool)(p:Prop):Prop:=(z=true/\p)\/(z=false/\¬p)
theorem TF.t{z:Bool}{p:Prop}(h:TF z p)(h2:z=true):p:=h.elim (·.2) fun h=>by rw[h.1]at h2;cases h2
theorem TF.f{z:Bool}{p:Prop}(h:TF z p)(h2:z=false):¬p:=h.elim (fun h=>by rw[h.1]at h2;cases h2) (·.2)
theorem TF.d{p q:Prop}[Decidable q](h:q↔p):TF (decide q) p:=by
 by_cases hq:q
 ·exact .inl ⟨decide_eq_true hq,h.1 hq⟩
 exact .inr ⟨decide_eq_false hq,fun hp=>hq (h.2 hp)⟩
section
variable{P:Program}{ι:Type}{φ ψ:Nat->Prop}{w0 w:World}{F:ι->Rs}{N m:Nat}{ρ0 ρ:Nat->Value}{S:List It}{tm:List (Nat×AV)}{a:Act}{Q:Exit->Act->World->Prop}
theorem bZ8{κ:Type}{c1 c2:Code}(G:x7 φ ψ w0 F N m ρ0 ρ S tm a w)(pre:κ->Prop)(Sk:κ->List It)(Tk:κ->List (Nat×AV))(h1:c1.wp P (Exit.then (fun a' w'=>∃k' ρ',pre k'/\0<1/\x7 φ ψ w0 F N m ρ0 ρ' (Sk k') (Tk k') a' w') Q) a w)(h2:∀k ρ a w,pre k->x7 φ ψ w0 F N m ρ0 ρ (Sk k) (Tk k) a w->c2.wp P Q a w):(Code.seq c1 c2).wp P Q a w:=by
 refine wp_seq (wp_mono h1 ?_)
 intro e a' w' hq
 cases e with
 |normal=>obtain⟨k,ρ',hp,_,Gk⟩:=hq;exact h2 k ρ' a' w' hp Gk
 |_=>exact hq
theorem aH2{κ:Type}{pre:κ->Prop}{Sk:κ->List It}{Tk:κ->List (Nat×AV)}(G:x7 φ ψ w0 F N m ρ0 ρ S tm a w)(k':κ)(hp:pre k')(js:List Nat)(S1:List It)(tm1:List (Nat×AV))(hs1:Sk k'=S1)(ht1:Tk k'=tm1)
  (hb:aj2 m js S1 tm1=true) (hS:js.map (t2 S)=S1.map (It.ren (nth js))) (ht:(tm1.map (·.1)).map (C5 tm)=tm1.map fun p=>some (p.2.ren (nth js))):
  ∃k' ρ',pre k'/\0<1/\x7 φ ψ w0 F N m ρ0 ρ' (Sk k') (Tk k') a w:=by
 subst hs1;subst ht1
 exact⟨k',_,hp,Nat.zero_lt_one,Inn.sel G js _ _ hb hS ht⟩
end
theorem bp4(op:Int)(r0:1<=op/\op<=13):j8.ok Tryz.prog (P1 121 [iA op] [] (.v (.string ⟨(r8 op).toArray⟩))):=
 at2 fun φ w ρ h=>(ar0 op w r0.1 r0.2).mono fun e w' h=>h
theorem ag2(b:List UInt8)(j:Int)(r0:0<=j)(r1:j<=900000000):j8.ok Tryz.prog ⟨71,[.ptr 0 0],[.box [.ref 1,iA j],dY b],[.box [.ref 1,iA (j+1)],dY b],iA (nm b j vaL)⟩:=by
 refine D9 6 Tryz.func71 [.box [.ref 1,iA j],dY b] [(0,.ptr 0 0)] fun G=>?_;refine wp_seq (l6 G f8 [(2,iA 0)] fun G=>b6 (wp_seq (j7 G (x6 2 [0,1,10] (j8.lend (Z6 b j ([0]++([1]++([2]++([3]++([255]++([128]++([7]++([4]++([100]++[]))))))))) (List.cons_ne_nil _ _) ai al) [.no,.no,.row 3])) [0,1] [.box [.ref 1,iA (j+1)],dY b] [(2,iA (nm b j ([0]++([1]++([2]++([3]++([255]++([128]++([7]++([4]++([100]++[])))))))))))] fun G=>b6 (wp_ret ?_))));exact G7 G [0,1]
theorem cc9:∀x∈opL,1<=x/\x<=12:=ak
theorem cB4(b:List UInt8){j:Int}(r0:0<=j)(r1:j<=900000000):1<=nm b j opL/\nm b j opL<=12:=cc9 _ (at4 b r0 al (List.cons_ne_nil _ _))
abbrev rnC(b:List UInt8)(j:Int)(vs ars:List Int)(l:List d9)(at0 n:Int):j8:=⟨114,[.ptr 0 0,.agg [.ref 2,.ref 3,.ref 4],iA at0,iA n],[.box [.ref 1,iA j],dY b,dI vs,dI ars,dN l],[.box [.ref 1,iA (rnD b j vs.length ars.length at0 n).2],dY b,dI vs,dI ars,dN l],.agg [iA (rnD b j vs.length ars.length at0 n).1.op,iA (rnD b j vs.length ars.length at0 n).1.a,iA (rnD b j vs.length ars.length at0 n).1.b,iA (rnD b j vs.length ars.length at0 n).1.c,iA (rnD b j vs.length ars.length at0 n).1.d]⟩
theorem a89{x:UInt8}{m:Nat}(h:((x.toNat:Nat):Int)=m)(hm:m<256):x=UInt8.ofNat m:=by
 apply UInt8.toNat_inj.1
 rw[UInt8.toNat_ofNat']
 omega
section
variable{b:List UInt8}{j i at0 n X:Int}{nv na:Nat}{ks:List UInt8}{k:Nat}{x:UInt8}
theorem cp0(hX:nm b j opL=X)(h:na=0)(h2:X=4\/X=5):opD b j na=2:=by unfold opD;rw[hX,if_pos ⟨h,h2⟩]
theorem co9(hX:nm b j opL=X)(h:¬na=0\/(¬X=4/\¬X=5)):opD b j na=X:=by unfold opD;rw[hX,if_neg al]
theorem bm3(b:List UInt8){i m:Int}(h0:0<=i)(h1:i<=1000000000):0<=pk b i m/\(pk b i m=0\/pk b i m<m):=by
 by_cases h:m<1
 ·rw[co4 h];omega
 have:=co3 b h0 h1 (n:=m) al;omega
theorem cA4(h:((x.toNat:Nat):Int)=114):ptD b i nv na at0 n x=pk b i 3:=by
 rw[a89 (m:=114) h ak];rfl
theorem cA6(h:((x.toNat:Nat):Int)=99):ptD b i nv na at0 n x=nm b i vaL:=by
 rw[a89 (m:=99) h ak];rfl
theorem cA2(h:((x.toNat:Nat):Int)=118):ptD b i nv na at0 n x=pk b i nv:=by
 rw[a89 (m:=118) h ak];rfl
theorem cA7(h:((x.toNat:Nat):Int)=97):ptD b i nv na at0 n x=pk b i na:=by
 rw[a89 (m:=97) h ak];rfl
theorem cA5(h:((x.toNat:Nat):Int)=111):ptD b i nv na at0 n x=4+pk b i 7:=by
 rw[a89 (m:=111) h ak];rfl
theorem cA3(h1:¬((x.toNat:Nat):Int)=114)(h2:¬((x.toNat:Nat):Int)=99)(h3:¬((x.toNat:Nat):Int)=118)(h4:¬((x.toNat:Nat):Int)=97)(h5:¬((x.toNat:Nat):Int)=111):ptD b i nv na at0 n x=at0+1+pk b i (n-at0-1):=by
 unfold ptD
 rw[if_neg fun e=>h1 (by rw[e];rfl),if_neg fun e=>h2 (by rw[e];rfl),if_neg fun e=>h3 (by rw[e];rfl),if_neg fun e=>h4 (by rw[e];rfl),if_neg fun e=>h5 (by rw[e];rfl)]
theorem cA8{v:Int}(hk:k<4)(h:ptD b (j+k) nv na at0 n (ks.getD k 0)=v):psD b j nv na at0 n ks (k+1)=(psD b j nv na at0 n ks k).set k v:=by rw[bM6 b j nv na at0 n ks hk,h]
theorem bsz(l:List UInt8):(ByteArray.mk l.toArray).size=l.length:=by simp[ByteArray.size]
theorem cz0(ho:opD b j na=X)(hk:(r8 X).length<=k)(hk2:k<=(r8 X).length):rnD b j nv na at0 n=(⟨X,(psD b (j+1) nv na at0 n (r8 X) k).getD 0 0,(psD b (j+1) nv na at0 n (r8 X) k).getD 1 0,(psD b (j+1) nv na at0 n (r8 X) k).getD 2 0,(psD b (j+1) nv na at0 n (r8 X) k).getD 3 0⟩,j+1+k):=by
 have e:k=(r8 X).length:=al
 subst e
 unfold rnD
 rw[ho]
def RnR(b:List UInt8)(j at0 n:Int)(nv na:Nat)(R:Int->Nat->List Int):Prop:=∀X k,R X k=psD b (j+1) nv na at0 n (r8 X) k
variable{R:Int->Nat->List Int}
theorem RnR.len(h:RnR b j at0 n nv na R)(X:Int)(k:Nat):(R X k).length=4:=by rw[h X k,bw1]
theorem RnR.start(h:RnR b j at0 n nv na R)(X:Int):R X 0=[0,0,0,0]:=h X 0
theorem RnR.next(h:RnR b j at0 n nv na R){X v:Int}(hk:k<4)(hp:ptD b (j+1+k) nv na at0 n ((r8 X).getD k 0)=v):R X (k+1)=(R X k).set k v:=by rw[h X (k+1),h X k];exact cA8 hk hp
theorem RnR.done(h:RnR b j at0 n nv na R){X:Int}(ho:opD b j na=X)(hk:(r8 X).length<=k)(hk2:k<=(r8 X).length):rnD b j nv na at0 n=(⟨X,(R X k).getD 0 0,(R X k).getD 1 0,(R X k).getD 2 0,(R X k).getD 3 0⟩,j+1+k):=by rw[h X k];exact cz0 ho hk hk2
end
abbrev aq7(Y:Int):AV:=.v (.string (ByteArray.mk (r8 Y).toArray))
abbrev af1:It:=.box [iA 0,iA 0,iA 0,iA 0,iA 0]
abbrev av3(Y:Int):It:=.box [iA Y,iA 0,iA 0,iA 0,iA 0]
abbrev aU9(j:Int)(k:Nat):It:=.box [.ref 1,iA (j+1+(k:Int)+1)]
abbrev Q3(at0:Int)(n:Int)(r0:List (Nat×AV)):List (Nat×AV):=(0,.ptr 0 0)::(2,iA at0)::(3,iA n)::(5,.ptr 5 0)::(8,.ptr 6 0)::(9,.ptr 7 0)::r0
abbrev au9(b:List UInt8)(j:Int)(vs:List Int)(ars:List Int)(l:List d9)(r0:List It):List It:=.box [.ref 1,iA (j+1)]::dY b::dI vs::dI ars::dN l::.box (pL 2)::r0
theorem bl0(b:List UInt8)(j:Int)(vs ars:List Int)(l:List d9)(at0 n X:Int)(hX:nm b j opL=X)(r0:0<=j)(r1:j<=800000000)(r2:0<=at0/\at0<=100)(r3:0<=n/\n<=100):j8.ok Tryz.prog (rnC b j vs ars l at0 n):=by
  have hnum:j8.ok Tryz.prog ⟨109,[.ptr 0 0,.ref 2],[.box [.ref 1,iA j],dY b,dI opL],[.box [.ref 1,iA (j+1)],dY b,dI opL],iA X⟩:=hX▸Z6 b j opL (List.cons_ne_nil _ _) r0 al;refine D9 114 Tryz.func114 [.box [.ref 1,iA j],dY b,dI vs,dI ars,dN l] [(0,.ptr 0 0),(1,pA 2),(2,iA at0),(3,iA n)] fun G=>?_;obtain⟨R,hR⟩:∃x:Int->Nat->List Int,RnR b j at0 n vs.length ars.length x:=⟨_,fun _ _=>rfl⟩;have hRl:=hR.len;have hop:1<=X/\X<=12:=hX▸cB4 b r0 al;refine wp_seq (j7 G f8 [0,1,2,3,4,5,13] [.box [.ref 1,iA j],dY b,dI vs,dI ars,dN l,.box (pL 2),af1] [(0,.ptr 0 0),(2,iA at0),(3,iA n),(5,.ptr 5 0),(8,.ptr 6 0)] fun G=>b6 (wp_seq (j7 G (x6 2 [0,1,15] (j8.lend hnum [.no,.no,.row 3])) [0,1,2,3,4,5,6,39] (au9 b j vs ars l [af1,.box [iA X,iA 0,iA 0,iA 0,iA 0]]) (Q3 at0 n []) fun G=>b6 ?_)));refine bZ8 (κ:=Int) G (fun Y=>1<=Y/\Y<=12/\opD b j ars.length=Y) (fun Y=>(au9 b j vs ars l [.box [iA 0,iA 0,iA 0,iA 0,iA 0],.box [iA Y,iA 0,iA 0,iA 0,iA 0]])) (fun Y=>(Q3 at0 n [])) ?_ ?_
  ·
   refine wp_seq ?_;cases h0:((ars.length:Int)==0)
   · have q0:=ne_of_beq_false h0;refine C6 G (H2 (fc h0 fz) (us [(5,8,0),(12,12,0),(1013,1013,0)])) (Q3 at0 n [(30,bA false)]) fun G=>b6 (rF G false aj (wp_skip (b6 ?_)));exact aH2 G X (⟨al,al,co9 hX al⟩) (rg 8) (au9 b j vs ars l [.box [iA 0,iA 0,iA 0,iA 0,iA 0],.box [iA X,iA 0,iA 0,iA 0,iA 0]]) (Q3 at0 n []) aj aj aj aj aj
   have q0:=eq_of_beq h0;cases h1:(X==4)
   ·
    have q1:=ne_of_beq_false h1;refine C6 G (H2 (fc h0 (fc h1 fz)) (us [(5,8,0),(9,11,1),(12,12,0),(1012,1012,1),(1013,1013,0)])) (Q3 at0 n [(30,bA (X==5))]) fun G=>b6 (V3 G (fun h2 q2=>?_) fun h2 q2=>?_)
    · refine wp_skip (b6 ?_);exact aH2 G X (⟨al,al,co9 hX al⟩) (rg 8) [.box [.ref 1,iA (j+1)],dY b,dI vs,dI ars,dN l,.box (pL 2),.box [iA 0,iA 0,iA 0,iA 0,iA 0],.box [iA X,iA 0,iA 0,iA 0,iA 0]] [(0,.ptr 0 0),(2,iA at0),(3,iA n),(5,.ptr 5 0),(8,.ptr 6 0),(9,.ptr 7 0)] aj aj aj aj aj
    refine j7 G f8 (rg 8) (au9 b j vs ars l [af1,.box [iA 2,iA 0,iA 0,iA 0,iA 0]]) (Q3 at0 n []) fun G=>b6 ?_;exact aH2 G 2 (⟨al,al,cp0 hX al al⟩) (rg 8) (au9 b j vs ars l [.box [iA 0,iA 0,iA 0,iA 0,iA 0],.box [iA 2,iA 0,iA 0,iA 0,iA 0]]) (Q3 at0 n []) aj aj aj aj aj
   have q1:=eq_of_beq h1;refine C6 G (H2 (fc h0 (fc h1 fz)) (us [(5,8,0),(9,11,1),(12,12,0),(1012,1012,1),(1013,1013,0)])) (Q3 at0 n [(30,bA true)]) fun G=>b6 (rT G true aj (j7 G f8 (rg 8) (au9 b j vs ars l [af1,.box [iA 2,iA 0,iA 0,iA 0,iA 0]]) (Q3 at0 n []) fun G=>b6 ?_));exact aH2 G 2 (⟨al,al,cp0 hX al al⟩) (rg 8) (au9 b j vs ars l [.box [iA 0,iA 0,iA 0,iA 0,iA 0],.box [iA 2,iA 0,iA 0,iA 0,iA 0]]) (Q3 at0 n []) aj aj aj aj aj
  clear G;intro Y ρ a w hp G;replace G:=x7.at G (au9 b j vs ars l [af1,av3 Y]) (Q3 at0 n []);have hY:=hp;refine wp_seq (l6 G (x6 2 [] (bp4 Y al)) [(10,aq7 Y)] fun G=>b6 (wp_seq (j7 G f8 (rg 9) (au9 b j vs ars l [af1,av3 Y,.row 3 (D.ints ([0]++([0]++([0]++([0]++[])))))]) (Q3 at0 n [(10,aq7 Y),(11,.ref 8)]) fun G=>b6 (wp_seq (wp_seq (C6 G f8 (Q3 at0 n [(10,aq7 Y),(11,.ref 8),(12,iA 0)]) fun G=>b6 (wp_block ?_)))))));replace G:=G.as [.box [.ref 1,iA (j+1+(0:Int))],dY b,dI vs,dI ars,dN l,.box (pL 2),.box [iA 0,iA 0,iA 0,iA 0,iA 0],.box [iA Y,iA 0,iA 0,iA 0,iA 0],.row 3 (D.ints (R Y 0))] (Q3 at0 n [(10,.v (.string (ByteArray.mk (r8 Y).toArray))),(11,.ref 8),(12,iA 0)]) (by have e1:(j+1+(0:Int):Int)=(j+1):=al;have e2:(R Y 0:List Int)=([0]++([0]++([0]++([0]++[])))):=(hR.start _);(first|rw[e1,e2]|simp only[e1,e2])<;>rfl) aj;refine t9 (κ:=Nat) (fun k=>k<=(r8 Y).length) (fun k=>(r8 Y).length-k) (fun k=>[.box [.ref 1,iA (j+1+k)],dY b,dI vs,dI ars,dN l,.box (pL 2),.box [iA 0,iA 0,iA 0,iA 0,iA 0],.box [iA Y,iA 0,iA 0,iA 0,iA 0],.row 3 (.ints (R Y k))]) (fun k=>[(0,.ptr 0 0),(2,iA at0),(3,iA n),(5,.ptr 5 0),(8,.ptr 6 0),(9,.ptr 7 0),(10,.v (.string (ByteArray.mk (r8 Y).toArray))),(11,.ref 8),(12,iA k)]) 0 al (x7.at G _ _) ?_;clear G;intro k ρ a w hp G;replace G:=x7.at G [.box [.ref 1,iA (j+1+(k:Int))],dY b,dI vs,dI ars,dN l,.box (pL 2),af1,av3 Y,.row 3 (D.ints (R Y k))] (Q3 at0 n [(10,aq7 Y),(11,.ref 8),(12,iA k)]);have hfl:=au0 Y;have hbz:=bsz (r8 Y);refine wp_seq (wp_seq (l6 G f8 [(39,bA (decide ((k:Int)<((ByteArray.mk (r8 Y).toArray).size:Int))))] fun G=>b6 (rcD G (fun h3 q3=>?_) fun h3 q3=>?_)))
  · refine wp_exit (t4 (t4 (t3 (b6 (wp_seq (K7 G f8 [0,1,0,4,12,0,32,96,0,256,768,0,2048,6144,16383,32767] [0,1,2,3,4,6] [.box [.ref 1,iA (j+1+(k:Int))],dY b,dI vs,dI ars,dN l,.box [iA Y,iA ((R Y k).getD 0 0),iA ((R Y k).getD 1 0),iA ((R Y k).getD 2 0),iA ((R Y k).getD 3 0)]] [(8,.ptr 5 0)] [(0:Int)<=0,(0:Int)<((R Y k).length:Int),(0:Nat)<(R Y k).length,(0:Int)<=1,(1:Int)<((R Y k).length:Int),(1:Nat)<(R Y k).length,(0:Int)<=2,(2:Int)<((R Y k).length:Int),(2:Nat)<(R Y k).length,(0:Int)<=3,(3:Int)<((R Y k).length:Int),(3:Nat)<(R Y k).length] ⟨al,(by rw[hRl];decide),(by rw[hRl];decide),al,(by rw[hRl];decide),(by rw[hRl];decide),al,(by rw[hRl];decide),(by rw[hRl];decide),al,(by rw[hRl];decide),(by rw[hRl];decide),cF1⟩ fun G=>b6 (wp_ret ?_)))))));exact T9 (.agg [iA Y,iA ((R Y k).getD 0 0),iA ((R Y k).getD 1 0),iA ((R Y k).getD 2 0),iA ((R Y k).getD 3 0)]) G (rg 5) (by have e1:((rnD b j vs.length ars.length at0 n).fst.op:Int)=(Y):=(by rw[hR.done (k:=k) hY.2.2 al al];done);have e2:((rnD b j vs.length ars.length at0 n).fst.a:Int)=((R Y k).getD 0 0):=(by rw[hR.done (k:=k) hY.2.2 al al];done);have e3:((rnD b j vs.length ars.length at0 n).fst.b:Int)=((R Y k).getD 1 0):=(by rw[hR.done (k:=k) hY.2.2 al al];done);have e4:((rnD b j vs.length ars.length at0 n).fst.c:Int)=((R Y k).getD 2 0):=(by rw[hR.done (k:=k) hY.2.2 al al];done);have e5:((rnD b j vs.length ars.length at0 n).fst.d:Int)=((R Y k).getD 3 0):=(by rw[hR.done (k:=k) hY.2.2 al al];done);(first|rw[e1,e2,e3,e4,e5]|simp only[e1,e2,e3,e4,e5])<;>rfl) (by show _=mR (rg 5) [.box [.ref 1,iA (rnD b j vs.length ars.length at0 n).snd],dY b,dI vs,dI ars,dN l];rw[hR.done (k:=k) hY.2.2 al al]<;>rfl)
  refine wp_skip (b6 (wp_seq (wp_block (wp_seq (H0 G f8 [(44,.v (.int .u8 (((r8 Y).getD k 0).toNat:Int)))] [(0:Int)<=(k:Int),(k:Int)<((ByteArray.mk (r8 Y).toArray).size:Int)] ⟨al,ai,cF1⟩ fun G=>b6 (wp_block (wp_seq (l6 G f8 [(57,bA ((((r8 Y).getD k 0).toNat:Int)==114))] fun G=>b6 (V3 (u:=(((r8 Y).getD k (0:UInt8)).toNat:Int)) (v:=(114:Int)) G (fun h4 q4=>?_) fun h4 q4=>?_)))))))))
  ·
   refine wp_seq (l6 G f8 [(64,bA ((((r8 Y).getD k 0).toNat:Int)==99))] fun G=>b6 (V3 (u:=(((r8 Y).getD k (0:UInt8)).toNat:Int)) (v:=(99:Int)) G (fun h5 q5=>?_) fun h5 q5=>?_))
   ·
    refine wp_seq (l6 G f8 [(71,bA ((((r8 Y).getD k 0).toNat:Int)==118))] fun G=>b6 (V3 (u:=(((r8 Y).getD k (0:UInt8)).toNat:Int)) (v:=(118:Int)) G (fun h6 q6=>?_) fun h6 q6=>?_))
    ·
     refine wp_seq (l6 G f8 [(81,bA ((((r8 Y).getD k 0).toNat:Int)==97))] fun G=>b6 (V3 (u:=(((r8 Y).getD k (0:UInt8)).toNat:Int)) (v:=(97:Int)) G (fun h7 q7=>?_) fun h7 q7=>?_))
     ·
      refine wp_seq (l6 G f8 [(91,bA ((((r8 Y).getD k 0).toNat:Int)==111))] fun G=>b6 (V3 (u:=(((r8 Y).getD k (0:UInt8)).toNat:Int)) (v:=(111:Int)) G (fun h8 q8=>?_) fun h8 q8=>?_))
      · refine R9 G (x6 9 [0,1] (G0 b (j+1+(k:Int)) (n-at0-1) al al)) (rg 9) [aU9 j k,dY b,dI vs,dI ars,dN l,.box (pL 2),af1,av3 Y,.row 3 (D.ints ((R Y k).set k (at0+1+pk b (j+1+(k:Int)) (n-at0-1))))] (Q3 at0 n [(10,aq7 Y),(11,.ref 8),(12,iA k)]) ((wO (at0+1))::((wO (n-at0))::((wO (n-at0-1))::((wO (at0+1+pk b (j+1+(k:Int)) (n-at0-1)))::(iX k k ((R Y k).length) []))))) ⟨oW al,⟨oW al,⟨oW al,⟨(by have h9:=bm3 b (i:=j+1+k) (m:=n-at0-1) al al;exact w64 al al),(iK (by rw[hRl];omega) cF1)⟩⟩⟩⟩ fun G=>m8 (m8 (b6 (H0 G f8 [(12,iA ((k:Int)+1))] [wO ((k:Int)+1)] (o1 al) fun G=>b6 ?_)));exact P7 G (k+1) al al (rg 9) (by have e1:(j+1+(↑(k+1):Int):Int)=(j+1+(k:Int)+1):=al;have e2:(R Y (k+1):List Int)=((R Y k).set k (at0+1+pk b (j+1+(k:Int)) (n-at0-1))):=(hR.next al (cA3 ab ab ab ab ab));(first|rw[e1,e2]|simp only[e1,e2])<;>rfl)
      refine R9 G (x6 3 [0,1] (G0 b (j+1+(k:Int)) 7 al al)) (rg 9) [aU9 j k,dY b,dI vs,dI ars,dN l,.box (pL 2),af1,av3 Y,.row 3 (D.ints ((R Y k).set k (4+pk b (j+1+(k:Int)) 7)))] (Q3 at0 n [(10,aq7 Y),(11,.ref 8),(12,iA k)]) ((wO ((4:Int)+pk b (j+1+(k:Int)) (7:Int)))::(iX k k ((R Y k).length) [])) ⟨(by have h9:=bm3 b (i:=j+1+k) (m:=7) al al;exact w64 al al),(iK (by rw[hRl];omega) cF1)⟩ fun G=>m8 (m8 (b6 (H0 G f8 [(12,iA ((k:Int)+1))] [wO ((k:Int)+1)] (o1 al) fun G=>b6 ?_)));exact P7 G (k+1) al al (rg 9) (by have e1:(j+1+(↑(k+1):Int):Int)=(j+1+(k:Int)+1):=al;have e2:(R Y (k+1):List Int)=((R Y k).set k (4+pk b (j+1+(k:Int)) 7)):=(hR.next al (cA5 ab));(first|rw[e1,e2]|simp only[e1,e2])<;>rfl)
     refine R9 G (x6 6 [0,1] (G0 b (j+1+(k:Int)) ((ars.length:Int)) al al)) (rg 9) [aU9 j k,dY b,dI vs,dI ars,dN l,.box (pL 2),af1,av3 Y,.row 3 (D.ints ((R Y k).set k (pk b (j+1+(k:Int)) (ars.length:Int))))] (Q3 at0 n [(10,aq7 Y),(11,.ref 8),(12,iA k)]) (iX k k ((R Y k).length) []) (iK (by rw[hRl];omega) cF1) fun G=>m8 (m8 (b6 (H0 G f8 [(12,iA ((k:Int)+1))] [wO ((k:Int)+1)] (o1 al) fun G=>b6 ?_)));exact P7 G (k+1) al al (rg 9) (by have e1:(j+1+(↑(k+1):Int):Int)=(j+1+(k:Int)+1):=al;have e2:(R Y (k+1):List Int)=((R Y k).set k (pk b (j+1+(k:Int)) (ars.length:Int))):=(hR.next al (cA7 ab));(first|rw[e1,e2]|simp only[e1,e2])<;>rfl)
    refine R9 G (x6 6 [0,1] (G0 b (j+1+(k:Int)) ((vs.length:Int)) al al)) (rg 9) [aU9 j k,dY b,dI vs,dI ars,dN l,.box (pL 2),af1,av3 Y,.row 3 (D.ints ((R Y k).set k (pk b (j+1+(k:Int)) (vs.length:Int))))] (Q3 at0 n [(10,aq7 Y),(11,.ref 8),(12,iA k)]) (iX k k ((R Y k).length) []) (iK (by rw[hRl];omega) cF1) fun G=>m8 (m8 (b6 (H0 G f8 [(12,iA ((k:Int)+1))] [wO ((k:Int)+1)] (o1 al) fun G=>b6 ?_)));exact P7 G (k+1) al al (rg 9) (by have e1:(j+1+(↑(k+1):Int):Int)=(j+1+(k:Int)+1):=al;have e2:(R Y (k+1):List Int)=((R Y k).set k (pk b (j+1+(k:Int)) (vs.length:Int))):=(hR.next al (cA2 ab));(first|rw[e1,e2]|simp only[e1,e2])<;>rfl)
   refine R9 G (x6 3 [0,1] (ag2 b (j+1+(k:Int)) al al)) (rg 9) [aU9 j k,dY b,dI vs,dI ars,dN l,.box (pL 2),af1,av3 Y,.row 3 (D.ints ((R Y k).set k (nm b (j+1+(k:Int)) vaL)))] (Q3 at0 n [(10,aq7 Y),(11,.ref 8),(12,iA k)]) (iX k k ((R Y k).length) []) (iK (by rw[hRl];omega) cF1) fun G=>m8 (m8 (b6 (H0 G f8 [(12,iA ((k:Int)+1))] [wO ((k:Int)+1)] (o1 al) fun G=>b6 ?_)));exact P7 G (k+1) al al (rg 9) (by have e1:(j+1+(↑(k+1):Int):Int)=(j+1+(k:Int)+1):=al;have e2:(R Y (k+1):List Int)=((R Y k).set k (nm b (j+1+(k:Int)) vaL)):=(hR.next al (cA6 ab));(first|rw[e1,e2]|simp only[e1,e2])<;>rfl)
  refine R9 G (x6 3 [0,1] (G0 b (j+1+(k:Int)) 3 al al)) (rg 9) [aU9 j k,dY b,dI vs,dI ars,dN l,.box (pL 2),af1,av3 Y,.row 3 (D.ints ((R Y k).set k (pk b (j+1+(k:Int)) 3)))] (Q3 at0 n [(10,aq7 Y),(11,.ref 8),(12,iA k)]) (iX k k ((R Y k).length) []) (iK (by rw[hRl];omega) cF1) fun G=>m8 (m8 (b6 (H0 G f8 [(12,iA ((k:Int)+1))] [wO ((k:Int)+1)] (o1 al) fun G=>b6 ?_)));exact P7 G (k+1) al al (rg 9) (by have e1:(j+1+(↑(k+1):Int):Int)=(j+1+(k:Int)+1):=al;have e2:(R Y (k+1):List Int)=((R Y k).set k (pk b (j+1+(k:Int)) 3)):=(hR.next al (cA4 ab));(first|rw[e1,e2]|simp only[e1,e2])<;>rfl)
theorem bp3(b:List UInt8)(j:Int)(vs ars:List Int)(l:List d9)(at0 n:Int)(r0:0<=j)(r1:j<=800000000)(r2:0<=at0/\at0<=100)(r3:0<=n/\n<=100):j8.ok Tryz.prog (rnC b j vs ars l at0 n):=bl0 b j vs ars l at0 n _ rfl r0 r1 r2 r3
abbrev mA(r:Nat):AV:=.agg [.ref r,.ref (r+1)]
abbrev mT(r:Nat):AV:=.agg [.ref r,.tref (r+1)]
abbrev mS(m:z6):List It:=[dI m.vals,dR m.arrs]
abbrev mO(m:z6):List It:=[.row 3 (.ints m.vals),.tree (.rows m.arrs)]
theorem bX0{l:List (List Int)}{k:Nat}(h:k<l.length):l.take (k+1)=l.take k++[l.getD k []]:=by
 rw[o0 _ _ h,m6 h]
theorem a90{l:List (List Int)}{k:Nat}(h:l.length<=k):l.take k=l:=cF0 h
abbrev bs5:It:=.box [.v (.slice none 0 0),.v (.slice none 0 0)]
theorem bV0(xs:List Int)(rs:List (List Int))(hx:xs.length<=1048576)(hr:rs.length<=1048576)(hi:∀a∈rs,a.length<=1048576):j8.ok Tryz.prog ⟨72,[mA 0],[dI xs,dR rs],[dI xs,dR rs,.row 3 (.ints xs),.tree (.rows rs)],mT 2⟩:=by
 refine D9 30 Tryz.func72 [dI xs,dR rs] [(0,.agg [.ref 0,.ref 1])] fun G=>?_;refine wp_seq (j7 G f8 [0,1,2,10] [dI xs,dR rs,.box [.ref 0,.ref 1],bs5] [(1,.ptr 2 0),(2,.ptr 3 0)] fun G=>b6 (wp_seq (R9 G f8 [0,1,2,3,28,44] [dI xs,dR rs,.box [.ref 0,.ref 1],bs5,.row 3 (D.ints ([]++xs)),.box [.ref 4,.v (.slice none 0 0)]] [(1,.ptr 2 0),(2,.ptr 3 0),(3,.ptr 5 0)] (aP ((0:Nat)+xs.length) 8 []) (aK al cF1) fun G=>b6 (wp_seq (wp_seq (C6 G f8 [(1,.ptr 2 0),(2,.ptr 3 0),(3,.ptr 5 0),(4,iA 0)] fun G=>b6 (wp_block ?_)))))));obtain⟨ρ,G⟩:=G.nilT 6 (.rows []) [dI xs,dR rs,.box [.ref 0,.ref 1],.box [.v (.slice none 0 0),.v (.slice none 0 0)],.row 3 (D.ints ([]++xs)),.box [.ref 4,.tref 6]] [(1,.ptr 2 0),(2,.ptr 3 0),(3,.ptr 5 0),(4,iA 0)];refine t9 (κ:=Nat) (fun k=>k<=rs.length) (fun k=>rs.length-k) (fun k=>[dI xs,dR rs,.box [.ref 0,.ref 1],.box [.v (.slice none 0 0),.v (.slice none 0 0)],.row 3 (D.ints ([]++xs)),.box [.ref 4,.tref 6],.tree (.rows (rs.take k))]) (fun k=>[(1,.ptr 2 0),(2,.ptr 3 0),(3,.ptr 5 0),(4,iA k)]) 0 al (x7.at G _ _) ?_;clear G;intro k ρ a w hp G;replace G:=x7.at G [dI xs,dR rs,.box [.ref 0,.ref 1],bs5,.row 3 (D.ints ([]++xs)),.box [.ref 4,.tref 6],.tree (D.rows (cE3 k rs))] [(1,.ptr 2 0),(2,.ptr 3 0),(3,.ptr 5 0),(4,iA k)];refine wp_seq (wp_seq (l6 G f8 [(14,bA (decide ((k:Int)<rs.length)))] fun G=>b6 (rcD G (fun h0 q0=>?_) fun h0 q0=>?_)))
 ·refine wp_exit (t4 (t4 (t3 (b6 (wp_seq (j7 G f8 [0,1,3,4,6] [dI xs,dR rs,.box [.ref 3,.tref 4],.row 3 (D.ints ([]++xs)),.tree (D.rows (cE3 k rs))] [(2,.ptr 2 0)] fun G=>b6 (wp_ret ?_)))))));exact G7 G [0,1,3,4] (by show _=mR [0,1,3,4] [dI xs,dR rs,.row 3 (D.ints xs),.tree (D.rows rs)];have e1:(cE3 k rs:List (List Int))=(rs):=(a90 al);(first|rw[e1]|simp only[e1])<;>rfl)
 refine wp_skip (b6 (wp_seq (wp_block (K7 G f8 [0,1,0,0,8,0,56,120,252,508,1023,2047,4095] [0,1,2,3,4,5,87] [dI xs,dR rs,.box [.ref 0,.ref 1],bs5,.row 3 (D.ints ([]++xs)),.box [.ref 4,.tref 6],.tree (D.rows (cE3 k rs++[[]++rs.getD k []]))] [(1,.ptr 2 0),(2,.ptr 3 0),(3,.ptr 5 0),(4,iA k)] (iX k k rs.length (aP ((0:Nat)+(rs.getD k []).length) 8 (aP ((cE3 k rs).length+[[]++rs.getD k []].length) 24 []))) (iK al (aK (by have h9:=hi (rs.getD k []) (by rw[m6 al];exact cF3 _);omega) (aK ah cF1))) fun G=>m8 (b6 (H0 G f8 [(4,iA ((k:Int)+1))] [wO ((k:Int)+1)] (o1 al) fun G=>b6 ?_))))));exact P7 G (k+1) al al (rg 7) (by have e1:(cE3 (k+1) rs:List (List Int))=(cE3 k rs++[[]++rs.getD k []]):=(bX0 al);(first|rw[e1]|simp only[e1])<;>rfl)
abbrev aq4:It:=.box [.v (.slice none 0 0),.v (.slice none 0 0)]
abbrev S5(r0:List (Nat×AV)):List (Nat×AV):=(0,.ptr 0 0)::(3,.ptr 5 0)::(4,.ptr 6 0)::(5,.ptr 7 0)::r0
abbrev a73(b:List UInt8)(j:Int)(vs:List Int)(i:Nat)(r0:List It):List It:=.box [.ref 8,.tref 9]::.row 3 (D.ints (vlD b j vs.length))::.tree (D.rows (arD b (j+(vs.length:Int)) i))::r0
abbrev a72(r0:List It):List It:=.box (pL 2)::.box [.v (.slice none 0 0),.v (.slice none 0 0)]::r0
theorem bq1(b:List UInt8)(j:Int)(vs ars:List Int)(bd:List c6)(h1:vs.length<=1000000)(h2:ars.length<=1000000)(r0:0<=j)(r1:j<=100000000):j8.ok Tryz.prog ⟨29,[.ptr 0 0,pA 2],[.box [.ref 1,iA j],dY b,dI vs,dI ars,dT bd],[.box [.ref 1,iA (j+vs.length+4*ars.length)],dY b,dI vs,dI ars,dT bd]++mS (mmD b j vs.length ars.length),mA 5⟩:=by
  refine D9 49 Tryz.func29 [.box [.ref 1,iA j],dY b,dI vs,dI ars,dT bd] [(0,.ptr 0 0),(1,pA 2)] fun G=>?_;refine wp_seq (j7 G f8 [0,1,2,3,4,5,13] [.box [.ref 1,iA j],dY b,dI vs,dI ars,dT bd,.box (pL 2),aq4] [(0,.ptr 0 0),(3,.ptr 5 0),(4,.ptr 6 0)] fun G=>b6 (wp_seq (j7 G f8 [0,1,2,3,4,5,6,15] [.box [.ref 1,iA j],dY b,dI vs,dI ars,dT bd,.box (pL 2),aq4,aq4] (S5 []) fun G=>b6 (wp_seq (wp_seq (C6 G f8 (S5 [(6,iA 0)]) fun G=>b6 (wp_block ?_)))))));obtain⟨ρ,G⟩:=G.nil 8 3 (.ints []) 1 (.box [.ref 1,iA j]::dY b::dI vs::dI ars::dT bd::(a72 [.box [.ref 8,.v (.slice none 0 0)]])) (S5 [(6,iA 0)]);replace G:=G.as (.box [.ref 1,iA (j+0)]::dY b::dI vs::dI ars::dT bd::(a72 [.box [.ref 8,.v (.slice none 0 0)],.row 3 (D.ints (vlD b j 0))])) (S5 [(6,iA 0)]) (by have e1:(j+0:Int)=(j):=al;(first|rw[e1]|simp only[e1])<;>rfl) aj;refine t9 (κ:=Nat) (fun k=>k<=vs.length) (fun k=>vs.length-k) (fun k=>[.box [.ref 1,iA (j+k)],dY b,dI vs,dI ars,dT bd,.box (pL 2),.box [.v (.slice none 0 0),.v (.slice none 0 0)],.box [.ref 8,.v (.slice none 0 0)],.row 3 (.ints (vlD b j k))]) (fun k=>[(0,.ptr 0 0),(3,.ptr 5 0),(4,.ptr 6 0),(5,.ptr 7 0),(6,iA k)]) 0 al (x7.at G _ _) ?_;clear G;intro k ρ a w hp G;replace G:=x7.at G [.box [.ref 1,iA (j+(k:Int))],dY b,dI vs,dI ars,dT bd,.box (pL 2),aq4,.box [.ref 8,.v (.slice none 0 0)],.row 3 (D.ints (vlD b j k))] (S5 [(6,iA k)]);have hvl:=as3 b j k;refine wp_seq (wp_seq (C6 G f8 (S5 [(6,iA k),(15,bA (decide ((k:Int)<vs.length)))]) fun G=>b6 ?_));cases h0:(decide ((k:Int)<vs.length))
  ·
   have q0:=dFf h0
   obtain rfl:k=vs.length:=al
   refine rF G (decide ((vs.length:Int)<vs.length)) ai (wp_exit (t4 (t4 (t3 (b6 (wp_seq (wp_seq (C6 G f8 (S5 [(7,iA 0)]) fun G=>b6 (wp_block ?_)))))))));obtain⟨ρ,G⟩:=G.nilT 9 (.rows []) (.box [.ref 1,iA (j+(vs.length:Int))]::dY b::dI vs::dI ars::dT bd::(a72 [.box [.ref 8,.tref 9],.row 3 (D.ints (vlD b j vs.length))])) (S5 [(7,iA 0)]);replace G:=G.as (.box [.ref 1,iA (j+(vs.length:Int)+4*(0:Int))]::dY b::dI vs::dI ars::dT bd::(a72 [.box [.ref 8,.tref 9],.row 3 (D.ints (vlD b j vs.length)),.tree (D.rows (arD b (j+(vs.length:Int)) 0))])) (S5 [(7,iA 0)]) (by have e1:(j+(vs.length:Int)+4*(0:Int):Int)=(j+(vs.length:Int)):=al;(first|rw[e1]|simp only[e1])<;>rfl) aj;refine t9 (κ:=Nat) (fun i=>i<=ars.length) (fun i=>ars.length-i) (fun i=>[.box [.ref 1,iA (j+vs.length+4*i)],dY b,dI vs,dI ars,dT bd,.box (pL 2),.box [.v (.slice none 0 0),.v (.slice none 0 0)],.box [.ref 8,.tref 9],.row 3 (D.ints (vlD b j vs.length)),.tree (.rows (arD b (j+vs.length) i))]) (fun i=>[(0,.ptr 0 0),(3,.ptr 5 0),(4,.ptr 6 0),(5,.ptr 7 0),(7,iA i)]) 0 al (x7.at G _ _) ?_;clear G;intro i ρ a w hp G;replace G:=x7.at G (.box [.ref 1,iA (j+(vs.length:Int)+4*(i:Int))]::dY b::dI vs::dI ars::dT bd::.box (pL 2)::aq4::(a73 b j vs i [])) (S5 [(7,iA i)]);have hal:=bW0 b (j+vs.length) i;refine wp_seq (wp_seq (C6 G f8 (S5 [(7,iA i),(29,bA (decide ((i:Int)<ars.length)))]) fun G=>b6 ?_));cases h1:(decide ((i:Int)<ars.length))
   ·
    have q1:=dFf h1
    obtain rfl:i=ars.length:=al
    refine rF G (decide ((ars.length:Int)<ars.length)) ai (wp_exit (t4 (t4 (t3 (b6 (wp_seq (j7 G f8 [0,1,2,3,4,6,8,9] [.box [.ref 1,iA (j+(vs.length:Int)+4*(ars.length:Int))],dY b,dI vs,dI ars,dT bd,.box [.ref 6,.tref 7],.row 3 (D.ints (vlD b j vs.length)),.tree (D.rows (arD b (j+(vs.length:Int)) ars.length))] [(4,.ptr 5 0)] fun G=>b6 (wp_ret ?_))))))));obtain⟨ρ,G⟩:=G.frz [.no,.no,.no,.no,.no,.no,.row 3,.tree] [.box [.ref 1,iA (j+(vs.length:Int)+4*(ars.length:Int))],dY b,dI vs,dI ars,dT bd,.box [.ref 6,.ref 7],dI (vlD b j vs.length),dR (arD b (j+(vs.length:Int)) ars.length)] [(4,.ptr 5 0)];exact G7 G [0,1,2,3,4,6,7]
   have q1:=dTt h1;refine rT G _ h1 (wp_skip (b6 (wp_seq (wp_block (wp_seq (j7 G f8 (rg 11) (.box [.ref 1,iA (j+(vs.length:Int)+4*(i:Int))]::dY b::dI vs::dI ars::dT bd::.box (pL 2)::aq4::(a73 b j vs i [.row 3 (D.ints [])])) (S5 [(7,iA i),(8,.ref 10)]) fun G=>b6 (wp_seq (wp_seq (C6 G f8 (S5 [(7,iA i),(8,.ref 10),(9,iA 0)]) fun G=>b6 (wp_block ?_))))))))));replace G:=G.as (.box [.ref 1,iA (j+(vs.length:Int)+4*(i:Int)+0)]::dY b::dI vs::dI ars::dT bd::(a72 (a73 b j vs i [.row 3 (D.ints (vlD b (j+(vs.length:Int)+4*(i:Int)) 0))]))) (S5 [(7,iA i),(8,.ref 10),(9,iA 0)]) (by have e1:(j+(vs.length:Int)+4*(i:Int)+0:Int)=(j+(vs.length:Int)+4*(i:Int)):=al;(first|rw[e1]|simp only[e1])<;>rfl) aj;refine t9 (κ:=Nat) (fun k2=>k2<=4) (fun k2=>4-k2) (fun k2=>[.box [.ref 1,iA (j+vs.length+4*i+k2)],dY b,dI vs,dI ars,dT bd,.box (pL 2),.box [.v (.slice none 0 0),.v (.slice none 0 0)],.box [.ref 8,.tref 9],.row 3 (D.ints (vlD b j vs.length)),.tree (D.rows (arD b (j+(vs.length:Int)) i)),.row 3 (.ints (vlD b (j+vs.length+4*i) k2))]) (fun k2=>[(0,.ptr 0 0),(3,.ptr 5 0),(4,.ptr 6 0),(5,.ptr 7 0),(7,iA i),(8,.ref 10),(9,iA k2)]) 0 al (x7.at G _ _) ?_;clear G;intro k2 ρ a w hp G;replace G:=x7.at G (.box [.ref 1,iA (j+(vs.length:Int)+4*(i:Int)+(k2:Int))]::dY b::dI vs::dI ars::dT bd::.box (pL 2)::aq4::(a73 b j vs i [.row 3 (D.ints (vlD b (j+(vs.length:Int)+4*(i:Int)) k2))])) (S5 [(7,iA i),(8,.ref 10),(9,iA k2)]);have hvl2:=as3 b (j+vs.length+4*i) k2;refine wp_seq (wp_seq (C6 G f8 (S5 [(7,iA i),(8,.ref 10),(9,iA k2),(34,bA (decide ((k2:Int)<4)))]) fun G=>b6 ?_));cases h2:(decide ((k2:Int)<4))
   ·
    have q2:=dFf h2
    obtain rfl:k2=4:=al
    refine rF G false aj (wp_exit (t4 (t4 (t3 (b6 (R9 G f8 [0,1,2,3,4,5,6,7,8,43] [.box [.ref 1,iA (j+(vs.length:Int)+4*(i:Int)+4)],dY b,dI vs,dI ars,dT bd,.box (pL 2),aq4,.box [.ref 8,.tref 9],.row 3 (D.ints (vlD b j vs.length)),.tree (D.rows (arD b (j+(vs.length:Int)) i++[vlD b (j+(vs.length:Int)+4*(i:Int)) 4]))] (S5 [(7,iA i)]) (aP ((arD b (j+(vs.length:Int)) i).length+[vlD b (j+(vs.length:Int)+4*(i:Int)) (4:Nat)].length) 24 []) (aK ah cF1) fun G=>m8 (b6 (H0 G f8 [(7,iA ((i:Int)+1))] [wO ((i:Int)+1)] (o1 al) fun G=>b6 ?_))))))));exact P7 G (i+1) al al (rg 10) (by have e1:(j+(vs.length:Int)+4*(↑(i+1):Int):Int)=(j+(vs.length:Int)+4*(i:Int)+4):=al;have e2:(arD b (j+(vs.length:Int)) (i+1):List (List Int))=(arD b (j+(vs.length:Int)) i++[vlD b (j+(vs.length:Int)+4*(i:Int)) 4]):=(b53 _ _ _);(first|rw[e1,e2]|simp only[e1,e2])<;>rfl)
   have q2:=dTt h2;refine rT G _ h2 (wp_skip (b6 (wp_seq (wp_block (R9 G (x6 2 [0,1] (ag2 b (j+(vs.length:Int)+4*(i:Int)+(k2:Int)) al al)) [0,1,2,3,4,5,6,7,8,9,43] (.box [.ref 1,iA (j+(vs.length:Int)+4*(i:Int)+(k2:Int)+1)]::dY b::dI vs::dI ars::dT bd::.box (pL 2)::aq4::(a73 b j vs i [.row 3 (D.ints (vlD b (j+(vs.length:Int)+4*(i:Int)) k2++([nm b (j+(vs.length:Int)+4*(i:Int)+(k2:Int)) vaL]++[])))])) (S5 [(7,iA i),(8,.ref 10),(9,iA k2)]) (aP ((vlD b (j+(vs.length:Int)+4*(i:Int)) k2).length+([nm b (j+(vs.length:Int)+4*(i:Int)+(k2:Int)) vaL]++[]).length) 8 []) (aK ah cF1) fun G=>m8 (b6 (H0 G f8 [(9,iA ((k2:Int)+1))] [wO ((k2:Int)+1)] (o1 al) fun G=>b6 ?_)))))));exact P7 G (k2+1) al al (rg 11) (by have e1:(j+(vs.length:Int)+4*(i:Int)+(↑(k2+1):Int):Int)=(j+(vs.length:Int)+4*(i:Int)+(k2:Int)+1):=al;have e2:(vlD b (j+(vs.length:Int)+4*(i:Int)) (k2+1):List Int)=(vlD b (j+(vs.length:Int)+4*(i:Int)) k2++([nm b (j+(vs.length:Int)+4*(i:Int)+(k2:Int)) vaL]++[])):=(a00 _ _ _);(first|rw[e1,e2]|simp only[e1,e2])<;>rfl)
  have q0:=dTt h0;refine rT G _ h0 (wp_skip (b6 (wp_seq (wp_block (K7 G (x6 3 [0,1] (ag2 b (j+(k:Int)) al al)) [0,1,0,4,12,31,63,127] [0,1,2,3,4,5,6,7,49] [.box [.ref 1,iA (j+(k:Int)+1)],dY b,dI vs,dI ars,dT bd,.box (pL 2),aq4,.box [.ref 8,.v (.slice none 0 0)],.row 3 (D.ints (vlD b j k++([nm b (j+(k:Int)) vaL]++[])))] (S5 [(6,iA k)]) (aP ((vlD b j k).length+([nm b (j+(k:Int)) vaL]++[]).length) 8 []) (aK ah cF1) fun G=>m8 (b6 (H0 G f8 [(6,iA ((k:Int)+1))] [wO ((k:Int)+1)] (o1 al) fun G=>b6 ?_)))))));exact P7 G (k+1) al al (rg 9) (by have e1:(j+(↑(k+1):Int):Int)=(j+(k:Int)+1):=al;have e2:(vlD b j (k+1):List Int)=(vlD b j k++([nm b (j+(k:Int)) vaL]++[])):=(a00 _ _ _);(first|rw[e1,e2]|simp only[e1,e2])<;>rfl)
end Go.Proofs.YtfbeblgnjeokaaaGreat

