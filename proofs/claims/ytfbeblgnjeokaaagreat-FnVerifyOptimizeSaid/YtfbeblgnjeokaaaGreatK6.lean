/- Part 6: functions on the way, plain laws. Conditions: as said. -/
import Derived.Test.YtfbeblgnjeokaaaGreatK1
import Derived.Test.YtfbeblgnjeokaaaGreatK4
import Derived.Test.YtfbeblgnjeokaaaGreatK5
set_option maxRecDepth 100000
set_option maxHeartbeats 16000000
set_option linter.unusedVariables false
set_option linter.unusedSimpArgs false
open Bool renaming and_eq_true → cv4, not_eq_false' → cy2, not_eq_true' → cy0, or_eq_true → cz9
open Inhabited renaming default → cv2
open Int renaming mul_le_mul_of_nonneg_right → cA3
open List renaming all_eq_true → cw3, append_assoc → cA4, eq_nil_of_length_eq_zero → cw9, getD_eq_getElem?_getD → cv8, getElem?_append_left → cw8, getElem?_append_right → cy7, getElem?_eq_getElem → cv6, getElem?_eq_none → cy1, getElem?_replicate → cz3, getElem_mem → cx9, length_append → cv9, length_cons → cw2, length_nil → cw6, length_replicate → cx5, length_set → cy3, map_cons → cy8, mem_append → cx6, mem_cons → cz2, mem_cons_of_mem → cz4, mem_cons_self → cz6, mem_range → cz5, mem_singleton → cy5, range → cx0, replicate → cv3, take → cw1, take_of_length_le → cw7
open Nat renaming le_refl → cv7, le_trans → cx8, lt_or_ge → cx7, zero_le → cy4
open True renaming intro → cx2

namespace Go.Proofs.YtfbeblgnjeokaaaGreat
open Go Go.RowKit
def G9(F:Nat->c5->Int×Nat):Nat->List c5->Int×Nat
 |c,[]=>(0,c)
 |c,s::r=>if(F c s).1=0 then G9 F (F c s).2 r else F c s
def an4(p:f7)(s:c5)(pc:Int):Int:=if s.kind=3 then l6 pc (o0 p s.value)else pc
def stC(p:f7)(strict:Bool):Nat->Int->Nat->c5->Int×Nat
  |0,_,c,_=>(0,c)
  | d + 1, pc, c, s => if ad4 p s pc strict = 0 then
      (if(G9 (stC p strict d (an4 p s pc)) (c+1) s.body).1=0 then G9 (stC p strict d (an4 p s pc)) (G9 (stC p strict d (an4 p s pc)) (c+1) s.body).2 s.els
       else G9 (stC p strict d (an4 p s pc)) (c+1) s.body)
    else(ad4 p s pc strict,c)
abbrev y6(p:f7)(strict:Bool)(d:Nat)(pc:Int)(c:Nat)(ss:List c5):Int×Nat:=G9 (stC p strict d pc) c ss
theorem ai7(F:Nat->c5->Int×Nat):∀(a b:List c5) (c:Nat),G9 F c (a++b)=if(G9 F c a).1=0 then G9 F (G9 F c a).2 b else G9 F c a
 |[],b,c=>by simp[G9]
 |x::r,b,c=>by
  simp only[List.cons_append,G9]
  by_cases h:(F c x).1=0
  ·simp only[h,if_true];exact ai7 F r b _
  simp[h]
theorem ad0{F:Nat->c5->Int×Nat}{c k:Nat}{ss:List c5}(h:(G9 F c (ss.take k)).1=0)(hk:k<ss.length):G9 F c (ss.take (k+1))=F (G9 F c (ss.take k)).2 (ss.getD k cv2):=by
 rw[n6 _ _ hk,ai7,if_pos h,n7 hk]
 simp only[G9]
 split
 ·rename_i h;exact Prod.ext h.symm rfl
 rfl
theorem H2{F:Nat->c5->Int×Nat}{c k:Nat}{ss:List c5}(h:(G9 F c (ss.take k)).1=0)(hk:k<ss.length)(hf:¬(F (G9 F c (ss.take k)).2 (ss.getD k cv2)).1=0):G9 F c ss=F (G9 F c (ss.take k)).2 (ss.getD k cv2):=by
 conv=>lhs;rw[<-List.take_append_drop (k+1) ss]
 rw[ai7,ad0 h hk,if_neg hf]
theorem aR2{F:Nat->c5->Int×Nat}{c k:Nat}{ss:List c5}(hk:ss.length<=k):G9 F c ss=G9 F c (ss.take k):=by rw[cw7 hk]
theorem ay7{F:Nat->c5->Int×Nat}(hF:∀c s,(F c s).2<=c+nS s):∀(ss:List c5) (c:Nat),(G9 F c ss).2<=c+Y5 ss
 |[],c=>by simp[G9]
 |s::r,c=>by
  simp only[G9,Y5]
  have h1:=hF c s
  have h2:=ay7 hF r (F c s).2
  split<;>omega
theorem bl2{p:f7}{strict:Bool}:∀(d:Nat) (pc:Int) (c:Nat) (s:c5),(stC p strict d pc c s).2<=c+nS s
 |0,_,c,s=>by simp[stC]
 |d+1,pc,c,s=>by
  have hs:=aB8 s
  have h1:=ay7 (bl2 (p:=p) (strict:=strict) d (an4 p s pc)) s.body (c+1)
  have h2:=ay7 (bl2 (p:=p) (strict:=strict) d (an4 p s pc)) s.els (G9 (stC p strict d (an4 p s pc)) (c+1) s.body).2
  rw[stC]
  split
  ·split<;>omega
  simp only;omega
theorem bs1{p:f7}{strict:Bool}{d:Nat}{pc:Int}{c:Nat}{ss:List c5}:(y6 p strict d pc c ss).2<=c+Y5 ss:=ay7 (bl2 d pc) ss c
theorem U8{nv na d k:Nat}{ss:List c5}(hs:ss.all (j5 nv na (d+1))=true)(hk:k<ss.length):F6 nv na (ss.getD k cv2)=true/\(ss.getD k cv2).body.all (j5 nv na d)=true/\(ss.getD k cv2).els.all (j5 nv na d)=true:=by
 have h:=cw3.1 hs _ (cx9 hk)
 rw[V2,cv4,cv4]at h
 rw[n7 hk];exact h
theorem b59{k:Nat}{ss:List c5}(hk:k<ss.length):Y5 (ss.take k)+(1+Y5 (ss.getD k cv2).body+Y5 (ss.getD k cv2).els)<=Y5 ss:=by
 have h1:=bC8 hk
 have h2:=bd2 ss (k+1)
 rw[aB8]at h1
 rw[n7 hk];omega
section
variable{p:f7}{strict:Bool}{d c:Nat}{pc:Int}{s:c5}
theorem aI3(h:¬ad4 p s pc strict=0):stC p strict (d+1) pc c s=(ad4 p s pc strict,c):=by rw[stC,if_neg h]
theorem X7{x:Int}(h:ad4 p s pc strict=0)(hx:an4 p s pc=x)(h2:¬(y6 p strict d x (c+1) s.body).1=0):stC p strict (d+1) pc c s=y6 p strict d x (c+1) s.body:=by
 subst hx;rw[stC,if_pos h,if_neg h2]
theorem Q5{x:Int}(h:ad4 p s pc strict=0)(hx:an4 p s pc=x)(h2:(y6 p strict d x (c+1) s.body).1=0):stC p strict (d+1) pc c s=y6 p strict d x (y6 p strict d x (c+1) s.body).2 s.els:=by
 subst hx;rw[stC,if_pos h,if_pos h2]
theorem af5(k:s.kind=3):an4 p s pc=l6 pc (o0 p s.value):=if_pos k
theorem af4(k:¬s.kind=3):an4 p s pc=pc:=if_neg k
end
theorem aT3{p:f7}{strict:Bool}{d k c:Nat}{pc:Int}{ss:List c5}(hc:c+Y5 ss<=4000000)(hk:k<ss.length):(y6 p strict (d+1) pc c (ss.take k)).2+1+Y5 (ss.getD k cv2).body<=4000000:=by
 have h1:=b59 (k:=k) (ss:=ss) hk
 have h2:=bs1 (p:=p) (strict:=strict) (d:=d+1) (pc:=pc) (c:=c) (ss:=ss.take k)
 omega
theorem a03{p:f7}{strict:Bool}{d k c:Nat}{pc x:Int}{ss:List c5}(hc:c+Y5 ss<=4000000)(hk:k<ss.length):(y6 p strict d x ((y6 p strict (d+1) pc c (ss.take k)).2+1) (ss.getD k cv2).body).2+Y5 (ss.getD k cv2).els<=4000000:=by
 have h1:=b59 (k:=k) (ss:=ss) hk
 have h2:=bs1 (p:=p) (strict:=strict) (d:=d+1) (pc:=pc) (c:=c) (ss:=ss.take k)
 have h3:=bs1 (p:=p) (strict:=strict) (d:=d) (pc:=x) (c:=(y6 p strict (d+1) pc c (ss.take k)).2+1) (ss:=(ss.getD k cv2).body)
 omega
theorem b24{p:f7}{strict:Bool}{d k c:Nat}{pc:Int}{ss:List c5}(hc:c+Y5 ss<=4000000)(hk:k<ss.length):IntKind.i64.wrap (((y6 p strict (d+1) pc c (ss.take k)).2:Int)+1)=((y6 p strict (d+1) pc c (ss.take k)).2:Int)+1:=by
 have h1:=aT3 (p:=p) (strict:=strict) (d:=d) (pc:=pc) hc hk
 exact w64 al al
abbrev b23(p:f7)(d:Nat)(ss:List c5)(pc:Int)(c:Nat)(strict:Bool):j8:=Y3 176 [pA 0,.ref 3,iA pc,iA c,bA strict] (pS p++[.dat (.stmts ss)]) (.tup [iA (y6 p strict d pc c ss).1,iA (y6 p strict d pc c ss).2])
theorem br4(p:f7)(pc:Int)(c:Nat)(strict:Bool):j8.ok Tryz.prog (b23 p 0 [] pc c strict):=by
 refine H9 74 Tryz.func176 [dI p.vars,dI p.arrays,dT p.body,dT []] [(0,pA 0),(1,.ref 3),(2,iA pc),(3,iA c),(4,bA strict)] fun G=>?_;refine wp_seq (j9 G f8 (rg 5) [dI p.vars,dI p.arrays,dT p.body,dT [],.box (pL 0)] [(1,.ref 3),(2,iA pc),(3,iA c),(4,bA strict),(5,.ptr 4 0),(10,iA 0),(11,iA 0)] fun G=>b6 (wp_seq (wp_seq (G3 G f8 [(1,.ref 3),(2,iA pc),(3,iA c),(4,bA strict),(5,.ptr 4 0),(10,iA 0),(11,iA 0),(12,iA 0)] fun G=>b6 (wp_block ?_)))));refine x6 (κ:=Nat) (fun k=>k=0) (fun k=>0) (fun k=>[dI p.vars,dI p.arrays,dT p.body,dT [],.box (pL 0)]) (fun k=>[(1,.ref 3),(2,iA pc),(3,iA c),(4,bA strict),(5,.ptr 4 0),(10,iA 0),(11,iA 0),(12,iA 0)]) 0 aj (x7.at G _ _) ?_;clear G;intro k ρ a w hp G;refine wp_seq (wp_seq (l8 G f8 [(19,bA false)] fun G=>b6 (rF G false aj (wp_exit (v8 (v8 (v6 (b6 (wp_seq (j9 G f8 (rg 4) [dI p.vars,dI p.arrays,dT p.body,dT []] [(10,iA 0),(11,iA c)] fun G=>b6 (wp_ret ?_)))))))))));exact O8 G (rg 4)
abbrev ar2(p:f7)(d:Nat)(strict:Bool)(ss:List c5)(pc:Int)(c:Nat)(k:Nat):=y6 p strict d (l6 pc (o0 p (ss.getD k cv2).value)) ((y6 p strict (d+1) pc c (cw1 k ss)).snd+1) (ss.getD k cv2).body
abbrev ad8(p:f7)(d:Nat)(strict:Bool)(ss:List c5)(pc:Int)(c:Nat)(k:Nat):=y6 p strict d pc ((y6 p strict (d+1) pc c (cw1 k ss)).snd+1) (ss.getD k cv2).body
abbrev a92(p:f7)(d:Nat)(strict:Bool)(ss:List c5)(pc:Int)(c:Nat)(k:Nat):=y6 p strict d (l6 pc (o0 p (ss.getD k cv2).value)) (ar2 p d strict ss pc c k).snd (ss.getD k cv2).els
abbrev aV8(strict:Bool)(k:Nat)(r0:List (Nat×AV)):List (Nat×AV):=(4,bA strict)::(5,.ptr 4 0)::(10,iA 0)::(11,iA 0)::(12,iA (k:Int))::r0
abbrev aK4(p:f7)(ss:List c5)(r0:List It):List It:=dI p.vars::dI p.arrays::dT p.body::dT ss::.box (pL 0)::r0
theorem br2(p:f7)(d:Nat)(strict:Bool)(ih:∀(ss:List c5) (pc:Int) (c:Nat),ss.all (j5 p.vars.length p.arrays.length d)=true->c+Y5 ss<=4000000->j8.ok Tryz.prog (b23 p d ss pc c strict))
    (ss:List c5) (pc:Int) (c:Nat) (hs:ss.all (j5 p.vars.length p.arrays.length (d+1))=true) (hc:c+Y5 ss<=4000000):j8.ok Tryz.prog (b23 p (d+1) ss pc c strict):=by
  refine H9 74 Tryz.func176 [dI p.vars,dI p.arrays,dT p.body,dT ss] [(0,pA 0),(1,.ref 3),(2,iA pc),(3,iA c),(4,bA strict)] fun G=>?_;have hlen:ss.length<=9223372036854775807:=G.len 3 (d:=.stmts ss) aj;refine wp_seq (j9 G f8 (rg 5) (aK4 p ss []) [(1,.ref 3),(2,iA pc),(3,iA c),(4,bA strict),(5,.ptr 4 0),(10,iA 0),(11,iA 0)] fun G=>b6 (wp_seq (wp_seq (G3 G f8 [(1,.ref 3),(2,iA pc),(3,iA c),(4,bA strict),(5,.ptr 4 0),(10,iA 0),(11,iA 0),(12,iA 0)] fun G=>b6 (wp_block ?_)))));refine x6 (κ:=Nat) (fun k=>k<=ss.length/\(y6 p strict (d+1) pc c (ss.take k)).1=0) (fun k=>ss.length-k) (fun k=>[dI p.vars,dI p.arrays,dT p.body,dT ss,.box (pL 0)]) (fun k=>[(1,.ref 3),(2,iA pc),(3,iA (y6 p strict (d+1) pc c (ss.take k)).2),(4,bA strict),(5,.ptr 4 0),(10,iA 0),(11,iA 0),(12,iA k)]) 0 (⟨cy4 _,rfl⟩) (x7.at G _ _) ?_;clear G;intro k ρ a w hp G;replace G:=x7.at G (aK4 p ss []) ((1,.ref 3)::(2,iA pc)::(3,iA ((y6 p strict (d+1) pc c (cw1 k ss)).snd:Int))::(aV8 strict k []));refine wp_seq (wp_seq (l8 G f8 [(19,bA (decide ((k:Int)<ss.length)))] fun G=>b6 (rcD G (fun h0 q0=>?_) fun h0 q0=>?_)))
  · refine wp_exit (v8 (v8 (v6 (b6 (wp_seq (j9 G f8 (rg 4) [dI p.vars,dI p.arrays,dT p.body,dT ss] [(10,iA 0),(11,iA ((y6 p strict (d+1) pc c (cw1 k ss)).snd:Int))] fun G=>b6 (wp_ret ?_)))))));exact Z1 (.tup [iA 0,iA ((y6 p strict (d+1) pc c (cw1 k ss)).snd:Int)]) G (rg 4) (by have e1:((y6 p strict (d+1) pc c ss).fst:Int)=(0):=(by rw[y6,aR2 (k:=k) al];exact hp.2);have e2:(((y6 p strict (d+1) pc c ss).snd:Int):Int)=(((y6 p strict (d+1) pc c (cw1 k ss)).snd:Int)):=(by rw[y6,aR2 (k:=k) al]);(first|rw[e1,e2]|simp only[e1,e2])<;>rfl)
  refine wp_skip (b6 (wp_seq (wp_block (wp_seq (rA1 G f8 [0,1,2,3,4,29,30,31,32,37] (aK4 p ss [dE (ss.getD k cv2).index.kids,dE (ss.getD k cv2).value.kids,dT (ss.getD k cv2).body,dT (ss.getD k cv2).els,.box (sL (ss.getD k cv2) 5)]) ((1,.ref 3)::(2,iA pc)::(3,iA ((y6 p strict (d+1) pc c (cw1 k ss)).snd:Int))::(aV8 strict k [(13,.ptr 9 0)])) (iX k k ss.length []) (iK al cx2) fun G=>b6 (wp_seq (l8 G (w6 4 [0,1,2,5,6,7,8] (b20 p (ss.getD k cv2) pc strict ((U8 hs al).1))) [(14,iA (ad4 p (ss.getD k cv2) pc strict))] fun G=>b6 (wp_seq (wp_seq (l8 G f8 [(32,bA (ad4 p (ss.getD k cv2) pc strict !=0))] fun G=>b6 (rcN G (fun h1 q1=>?_) fun h1 q1=>?_)))))))))))
  ·
   refine wp_skip (b6 (wp_seq (P4 G f8 [(3,iA (((y6 p strict (d+1) pc c (cw1 k ss)).snd:Int)+1))] [wO (((y6 p strict (d+(1:Nat)) pc c (cw1 k ss)).snd:Int)+1)] ⟨(b24 hc al),cx2⟩ fun G=>b6 (wp_seq (l8 G f8 [(15,iA pc)] fun G=>b6 (wp_seq (wp_seq (l8 G f8 [(40,bA ((ss.getD k cv2).kind==3))] fun G=>b6 (S4 G (fun h2 q2=>?_) fun h2 q2=>?_)))))))))
   ·
    refine wp_skip (b6 (wp_seq (l8 G (w6 6 [0,1,2,7] (ih ((ss.getD k cv2).body) pc ((y6 p strict (d+1) pc c (cw1 k ss)).snd+1) ((U8 hs al).2.1) (aT3 hc al))) [(3,iA ((ad8 p d strict ss pc c k).snd:Int)),(14,iA (ad8 p d strict ss pc c k).fst)] fun G=>b6 (wp_seq (wp_seq (l8 G f8 [(58,bA ((ad8 p d strict ss pc c k).fst==0))] fun G=>b6 (S4 (u:=((y6 p strict d pc ((y6 p strict (d+(1:Nat)) pc c (cw1 k ss)).snd+(1:Nat)) (ss.getD k cv2).body).fst)) (v:=(0:Int)) G (fun h3 q3=>?_) fun h3 q3=>?_)))))))
    ·
     refine wp_skip (b6 (wp_seq (j9 G f8 (rg 5) (aK4 p ss []) ((1,.ref 3)::(2,iA pc)::(3,iA ((ad8 p d strict ss pc c k).snd:Int))::(aV8 strict k [(14,iA (ad8 p d strict ss pc c k).fst),(70,bA ((ad8 p d strict ss pc c k).fst !=0))])) fun G=>b6 ?_)));cases h4:((y6 p strict d pc ((y6 p strict (d+(1:Nat)) pc c (cw1 k ss)).snd+(1:Nat)) (ss.getD k cv2).body).fst !=0)
     · have q4:=bne_eq_false_iff_eq.1 h4;exact False.elim al
     have q4:=bne_iff_ne.1 h4;refine rT G _ h4 (wp_seq (l8 G f8 [(10,iA (ad8 p d strict ss pc c k).fst),(11,iA ((ad8 p d strict ss pc c k).snd:Int))] fun G=>b6 (wp_ret (B7 (l7 (l7 (B7 (l7 ?_))))))));exact Z1 (.tup [iA (y6 p strict d pc ((y6 p strict (d+1) pc c (cw1 k ss)).snd+1) (ss.getD k cv2).body).fst,iA ((y6 p strict d pc ((y6 p strict (d+1) pc c (cw1 k ss)).snd+1) (ss.getD k cv2).body).snd:Int)]) G (rg 4) (by have e1:((y6 p strict (d+1) pc c ss).fst:Int)=((y6 p strict d pc ((y6 p strict (d+1) pc c (cw1 k ss)).snd+1) (ss.getD k cv2).body).fst):=(by rw[y6,H2 hp.2 al (by rw[X7 ab (af4 ab) ab];with_reducible assumption),X7 ab (af4 ab) ab]);have e2:(((y6 p strict (d+1) pc c ss).snd:Int):Int)=(((y6 p strict d pc ((y6 p strict (d+1) pc c (cw1 k ss)).snd+1) (ss.getD k cv2).body).snd:Int)):=(by rw[y6,H2 hp.2 al (by rw[X7 ab (af4 ab) ab];with_reducible assumption),X7 ab (af4 ab) ab]);(first|rw[e1,e2]|simp only[e1,e2])<;>rfl)
    refine j9 G (w6 6 [0,1,2,8] (ih ((ss.getD k cv2).els) pc ((ad8 p d strict ss pc c k).snd) ((U8 hs al).2.2) (a03 hc al))) (rg 5) (aK4 p ss []) ((1,.ref 3)::(2,iA pc)::(3,iA ((y6 p strict d pc (ad8 p d strict ss pc c k).snd (ss.getD k cv2).els).snd:Int))::(aV8 strict k [(14,iA (y6 p strict d pc (ad8 p d strict ss pc c k).snd (ss.getD k cv2).els).fst)])) fun G=>b6 (wp_seq (l8 G f8 [(70,bA ((y6 p strict d pc (ad8 p d strict ss pc c k).snd (ss.getD k cv2).els).fst !=0))] fun G=>b6 (rcN (u:=((y6 p strict d pc (y6 p strict d pc ((y6 p strict (d+(1:Nat)) pc c (cw1 k ss)).snd+(1:Nat)) (ss.getD k cv2).body).snd (ss.getD k cv2).els).fst)) (v:=(0:Int)) G (fun h5 q5=>?_) fun h5 q5=>?_)))
    · refine wp_skip (p8 (b6 (P4 G f8 [(12,iA ((k:Int)+1))] [wO ((k:Int)+1)] (o1 al) fun G=>b6 ?_)));exact U5 G (k+1) (⟨al,by rw[y6,ad0 hp.2 al,Q5 ab (af4 ab) ab];with_reducible assumption⟩) al (rg 5) (ht:=by have e1:(((y6 p strict (d+1) pc c (cw1 (k+1) ss)).snd:Int):Int)=(((y6 p strict d pc (y6 p strict d pc ((y6 p strict (d+1) pc c (cw1 k ss)).snd+1) (ss.getD k cv2).body).snd (ss.getD k cv2).els).snd:Int)):=(by rw[y6,ad0 hp.2 al,Q5 ab (af4 ab) ab]);(first|rw[e1]|simp only[e1])<;>rfl)
    refine wp_seq (l8 G f8 [(10,iA (y6 p strict d pc (ad8 p d strict ss pc c k).snd (ss.getD k cv2).els).fst),(11,iA ((y6 p strict d pc (ad8 p d strict ss pc c k).snd (ss.getD k cv2).els).snd:Int))] fun G=>b6 (wp_ret (B7 (l7 (l7 (B7 (l7 ?_)))))));exact Z1 (.tup [iA (y6 p strict d pc (y6 p strict d pc ((y6 p strict (d+1) pc c (cw1 k ss)).snd+1) (ss.getD k cv2).body).snd (ss.getD k cv2).els).fst,iA ((y6 p strict d pc (y6 p strict d pc ((y6 p strict (d+1) pc c (cw1 k ss)).snd+1) (ss.getD k cv2).body).snd (ss.getD k cv2).els).snd:Int)]) G (rg 4) (by have e1:((y6 p strict (d+1) pc c ss).fst:Int)=((y6 p strict d pc (y6 p strict d pc ((y6 p strict (d+1) pc c (cw1 k ss)).snd+1) (ss.getD k cv2).body).snd (ss.getD k cv2).els).fst):=(by rw[y6,H2 hp.2 al (by rw[Q5 ab (af4 ab) ab];with_reducible assumption),Q5 ab (af4 ab) ab]);have e2:(((y6 p strict (d+1) pc c ss).snd:Int):Int)=(((y6 p strict d pc (y6 p strict d pc ((y6 p strict (d+1) pc c (cw1 k ss)).snd+1) (ss.getD k cv2).body).snd (ss.getD k cv2).els).snd:Int)):=(by rw[y6,H2 hp.2 al (by rw[Q5 ab (af4 ab) ab];with_reducible assumption),Q5 ab (af4 ab) ab]);(first|rw[e1,e2]|simp only[e1,e2])<;>rfl)
   refine l8 G (w6 4 [0,1,2,6] (P2 p ((ss.getD k cv2).value) (C1 (U8 hs al).1 al))) [(15,iA (l6 pc (o0 p (ss.getD k cv2).value)))] fun G=>b6 (wp_seq (l8 G (w6 6 [0,1,2,7] (ih ((ss.getD k cv2).body) (l6 pc (o0 p (ss.getD k cv2).value)) ((y6 p strict (d+1) pc c (cw1 k ss)).snd+1) ((U8 hs al).2.1) (aT3 hc al))) [(3,iA ((ar2 p d strict ss pc c k).snd:Int)),(14,iA (ar2 p d strict ss pc c k).fst)] fun G=>b6 (wp_seq (wp_seq (l8 G f8 [(58,bA ((ar2 p d strict ss pc c k).fst==0))] fun G=>b6 (S4 (u:=((y6 p strict d (l6 pc (o0 p (ss.getD k cv2).value)) ((y6 p strict (d+(1:Nat)) pc c (cw1 k ss)).snd+(1:Nat)) (ss.getD k cv2).body).fst)) (v:=(0:Int)) G (fun h6 q6=>?_) fun h6 q6=>?_))))))
   ·
    refine wp_skip (b6 (wp_seq (j9 G f8 (rg 5) (aK4 p ss []) ((1,.ref 3)::(2,iA pc)::(3,iA ((ar2 p d strict ss pc c k).snd:Int))::(aV8 strict k [(14,iA (ar2 p d strict ss pc c k).fst),(70,bA ((ar2 p d strict ss pc c k).fst !=0))])) fun G=>b6 ?_)));cases h7:((y6 p strict d (l6 pc (o0 p (ss.getD k cv2).value)) ((y6 p strict (d+(1:Nat)) pc c (cw1 k ss)).snd+(1:Nat)) (ss.getD k cv2).body).fst !=0)
    · have q7:=bne_eq_false_iff_eq.1 h7;exact False.elim al
    have q7:=bne_iff_ne.1 h7;refine rT G _ h7 (wp_seq (l8 G f8 [(10,iA (ar2 p d strict ss pc c k).fst),(11,iA ((ar2 p d strict ss pc c k).snd:Int))] fun G=>b6 (wp_ret (B7 (l7 (l7 (B7 (l7 ?_))))))));exact Z1 (.tup [iA (y6 p strict d (l6 pc (o0 p (ss.getD k cv2).value)) ((y6 p strict (d+1) pc c (cw1 k ss)).snd+1) (ss.getD k cv2).body).fst,iA ((y6 p strict d (l6 pc (o0 p (ss.getD k cv2).value)) ((y6 p strict (d+1) pc c (cw1 k ss)).snd+1) (ss.getD k cv2).body).snd:Int)]) G (rg 4) (by have e1:((y6 p strict (d+1) pc c ss).fst:Int)=((y6 p strict d (l6 pc (o0 p (ss.getD k cv2).value)) ((y6 p strict (d+1) pc c (cw1 k ss)).snd+1) (ss.getD k cv2).body).fst):=(by rw[y6,H2 hp.2 al (by rw[X7 ab (af5 ab) ab];with_reducible assumption),X7 ab (af5 ab) ab]);have e2:(((y6 p strict (d+1) pc c ss).snd:Int):Int)=(((y6 p strict d (l6 pc (o0 p (ss.getD k cv2).value)) ((y6 p strict (d+1) pc c (cw1 k ss)).snd+1) (ss.getD k cv2).body).snd:Int)):=(by rw[y6,H2 hp.2 al (by rw[X7 ab (af5 ab) ab];with_reducible assumption),X7 ab (af5 ab) ab]);(first|rw[e1,e2]|simp only[e1,e2])<;>rfl)
   refine j9 G (w6 6 [0,1,2,8] (ih ((ss.getD k cv2).els) (l6 pc (o0 p (ss.getD k cv2).value)) ((ar2 p d strict ss pc c k).snd) ((U8 hs al).2.2) (a03 hc al))) (rg 5) (aK4 p ss []) ((1,.ref 3)::(2,iA pc)::(3,iA ((a92 p d strict ss pc c k).snd:Int))::(aV8 strict k [(14,iA (a92 p d strict ss pc c k).fst)])) fun G=>b6 (wp_seq (l8 G f8 [(70,bA ((a92 p d strict ss pc c k).fst !=0))] fun G=>b6 (rcN (u:=((y6 p strict d (l6 pc (o0 p (ss.getD k cv2).value)) (y6 p strict d (l6 pc (o0 p (ss.getD k cv2).value)) ((y6 p strict (d+(1:Nat)) pc c (cw1 k ss)).snd+(1:Nat)) (ss.getD k cv2).body).snd (ss.getD k cv2).els).fst)) (v:=(0:Int)) G (fun h8 q8=>?_) fun h8 q8=>?_)))
   · refine wp_skip (p8 (b6 (P4 G f8 [(12,iA ((k:Int)+1))] [wO ((k:Int)+1)] (o1 al) fun G=>b6 ?_)));exact U5 G (k+1) (⟨al,by rw[y6,ad0 hp.2 al,Q5 ab (af5 ab) ab];with_reducible assumption⟩) al (rg 5) (ht:=by have e1:(((y6 p strict (d+1) pc c (cw1 (k+1) ss)).snd:Int):Int)=(((y6 p strict d (l6 pc (o0 p (ss.getD k cv2).value)) (y6 p strict d (l6 pc (o0 p (ss.getD k cv2).value)) ((y6 p strict (d+1) pc c (cw1 k ss)).snd+1) (ss.getD k cv2).body).snd (ss.getD k cv2).els).snd:Int)):=(by rw[y6,ad0 hp.2 al,Q5 ab (af5 ab) ab]);(first|rw[e1]|simp only[e1])<;>rfl)
   refine wp_seq (l8 G f8 [(10,iA (a92 p d strict ss pc c k).fst),(11,iA ((a92 p d strict ss pc c k).snd:Int))] fun G=>b6 (wp_ret (B7 (l7 (l7 (B7 (l7 ?_)))))));exact Z1 (.tup [iA (y6 p strict d (l6 pc (o0 p (ss.getD k cv2).value)) (y6 p strict d (l6 pc (o0 p (ss.getD k cv2).value)) ((y6 p strict (d+1) pc c (cw1 k ss)).snd+1) (ss.getD k cv2).body).snd (ss.getD k cv2).els).fst,iA ((y6 p strict d (l6 pc (o0 p (ss.getD k cv2).value)) (y6 p strict d (l6 pc (o0 p (ss.getD k cv2).value)) ((y6 p strict (d+1) pc c (cw1 k ss)).snd+1) (ss.getD k cv2).body).snd (ss.getD k cv2).els).snd:Int)]) G (rg 4) (by have e1:((y6 p strict (d+1) pc c ss).fst:Int)=((y6 p strict d (l6 pc (o0 p (ss.getD k cv2).value)) (y6 p strict d (l6 pc (o0 p (ss.getD k cv2).value)) ((y6 p strict (d+1) pc c (cw1 k ss)).snd+1) (ss.getD k cv2).body).snd (ss.getD k cv2).els).fst):=(by rw[y6,H2 hp.2 al (by rw[Q5 ab (af5 ab) ab];with_reducible assumption),Q5 ab (af5 ab) ab]);have e2:(((y6 p strict (d+1) pc c ss).snd:Int):Int)=(((y6 p strict d (l6 pc (o0 p (ss.getD k cv2).value)) (y6 p strict d (l6 pc (o0 p (ss.getD k cv2).value)) ((y6 p strict (d+1) pc c (cw1 k ss)).snd+1) (ss.getD k cv2).body).snd (ss.getD k cv2).els).snd:Int)):=(by rw[y6,H2 hp.2 al (by rw[Q5 ab (af5 ab) ab];with_reducible assumption),Q5 ab (af5 ab) ab]);(first|rw[e1,e2]|simp only[e1,e2])<;>rfl)
  refine wp_seq (l8 G f8 [(10,iA (ad4 p (ss.getD k cv2) pc strict)),(11,iA ((y6 p strict (d+1) pc c (cw1 k ss)).snd:Int))] fun G=>b6 (wp_ret (l7 (B7 (l7 (l7 (B7 (l7 ?_))))))));exact Z1 (.tup [iA (ad4 p (ss.getD k cv2) pc strict),iA ((y6 p strict (d+1) pc c (cw1 k ss)).snd:Int)]) G (rg 4) (by have e1:((y6 p strict (d+1) pc c ss).fst:Int)=(ad4 p (ss.getD k cv2) pc strict):=(by rw[y6,H2 hp.2 al (by rw[aI3 ab];with_reducible assumption),aI3 ab]);have e2:(((y6 p strict (d+1) pc c ss).snd:Int):Int)=(((y6 p strict (d+1) pc c (cw1 k ss)).snd:Int)):=(by rw[y6,H2 hp.2 al (by rw[aI3 ab];with_reducible assumption),aI3 ab]);(first|rw[e1,e2]|simp only[e1,e2])<;>rfl)
theorem br3(p:f7)(strict:Bool):∀(d:Nat) (ss:List c5) (pc:Int) (c:Nat),ss.all (j5 p.vars.length p.arrays.length d)=true->c+Y5 ss<=4000000->j8.ok Tryz.prog (b23 p d ss pc c strict):=by
 intro d
 induction d with
 |zero=>
  intro ss pc c h hc
  cases ss with
  |nil=>exact br4 p pc c strict
  |cons s r=>simp[j5]at h
 |succ d ih=>intro ss pc c h hc;exact br2 p d strict ih ss pc c h hc
theorem aB5{p:f7}(h:m6 p=true):p.body.all (j5 p.vars.length p.arrays.length 5)=true/\Y5 p.body<=60:=by
 simp only[m6,aj5,cv4,decide_eq_true_eq]at h
 exact⟨h.1.2,h.2⟩
theorem bT8(p:f7)(strict:Bool)(h:m6 p=true):j8.ok Tryz.prog (Y3 176 [pA 0,.ref 2,iA 0,iA 0,bA strict] (pS p) (.tup [iA (y6 p strict 5 0 0 p.body).1,iA (y6 p strict 5 0 0 p.body).2])):=
 j8.dup (S:=pS p) (S':=pS p) (d:=.stmts p.body) (i:=2) (br3 p strict 5 p.body 0 0 (aB5 h).1 (by have:=(aB5 h).2;omega)) rfl rfl rfl (fun ρ h=>by simp only[AV.vals,AV.val];rw[show ρ 3=ρ 2 from h];rfl) rfl
def Y6(p:f7)(strict:Bool):Int×Int:=if m6 p then(if(y6 p strict 5 0 0 p.body).1=0 then(0,-1)else((y6 p strict 5 0 0 p.body).1,((y6 p strict 5 0 0 p.body).2:Int)))else(5,-1)
section
variable{p:f7}{strict:Bool}
theorem b57(h:m6 p=false):Y6 p strict=(5,-1):=by rw[Y6,h];rfl
theorem by9(h:m6 p=true)(h1:(y6 p strict 5 0 0 p.body).1=0):Y6 p strict=(0,-1):=by rw[Y6,h,h1];rfl
theorem bT0(h:m6 p=true)(h1:¬(y6 p strict 5 0 0 p.body).1=0):Y6 p strict=((y6 p strict 5 0 0 p.body).1,((y6 p strict 5 0 0 p.body).2:Int)):=by rw[Y6,h,if_neg h1];rfl
end
theorem bF3(p:f7)(strict:Bool)(hb:i9 p.body<=1048576):j8.ok Tryz.prog (Y3 131 [pA 0,bA strict] (pS p) (.tup [iA (Y6 p strict).1,iA (Y6 p strict).2])):=by
  refine H9 24 Tryz.func131 [dI p.vars,dI p.arrays,dT p.body] [(0,pA 0),(1,bA strict)] fun G=>?_;refine wp_seq (j9 G f8 (rg 4) [dI p.vars,dI p.arrays,dT p.body,.box (pL 0)] [(1,bA strict),(2,.ptr 3 0),(4,iA 0),(5,iA 0)] fun G=>b6 (wp_seq (wp_seq (l8 G (w6 1 [0,1,2] (T7 p ai)) [(10,.v (.bool !m6 p))] fun G=>b6 ?_))));cases h0:(!m6 p)
  ·
   have q0:(m6 p)=true:=(Eq.mp (cy2 _) h0);refine rF G _ h0 (wp_skip (b6 (wp_seq (j9 G (w6 4 [0,1,2] (bT8 p strict ai)) [0,1,2] [dI p.vars,dI p.arrays,dT p.body] [(4,iA 0),(5,iA 0),(6,iA (y6 p strict 5 0 0 p.body).fst),(7,iA ((y6 p strict 5 0 0 p.body).snd:Int))] fun G=>b6 (wp_seq (wp_seq (l8 G f8 [(20,bA ((y6 p strict 5 0 0 p.body).fst==0))] fun G=>b6 (S4 G (fun h1 q1=>?_) fun h1 q1=>?_))))))))
   · refine wp_skip (b6 (wp_seq (l8 G f8 [(4,iA (y6 p strict 5 0 0 p.body).fst),(5,iA ((y6 p strict 5 0 0 p.body).snd:Int))] fun G=>b6 (wp_ret ?_))));exact Z1 (.tup [iA (y6 p strict 5 0 0 p.body).fst,iA ((y6 p strict 5 0 0 p.body).snd:Int)]) G [0,1,2] (by have e1:((Y6 p strict).fst:Int)=((y6 p strict 5 0 0 p.body).fst):=(by rw[bT0 ai ai];done);have e2:((Y6 p strict).snd:Int)=(((y6 p strict 5 0 0 p.body).snd:Int)):=(by rw[bT0 ai ai];done);(first|rw[e1,e2]|simp only[e1,e2])<;>rfl)
   refine wp_seq (l8 G f8 [(4,iA (y6 p strict 5 0 0 p.body).fst),(5,iA (-1))] fun G=>b6 (wp_ret (l7 ?_)));exact Z1 (.tup [iA (y6 p strict 5 0 0 p.body).fst,iA (-1)]) G [0,1,2] (by have e1:((Y6 p strict).fst:Int)=((y6 p strict 5 0 0 p.body).fst):=((congrArg Prod.fst (by9 ai ai)).trans (Eq.symm ai));have e2:((Y6 p strict).snd:Int)=(-1):=(by rw[by9 ai ai];done);(first|rw[e1,e2]|simp only[e1,e2])<;>rfl)
  have q0:(m6 p)=false:=(Eq.mp (cy0 _) h0);refine rT G _ h0 (wp_seq (l8 G f8 [(4,iA 5),(5,iA (-1))] fun G=>b6 (wp_ret (l7 ?_))));exact Z1 (.tup [iA 5,iA (-1)]) G [0,1,2] (by have e1:((Y6 p strict).fst:Int)=(5):=(by rw[b57 ai];done);have e2:((Y6 p strict).snd:Int)=(-1):=(by rw[b57 ai];done);(first|rw[e1,e2]|simp only[e1,e2])<;>rfl)
theorem bi2(p:f7)(hb:i9 p.body<=1048576):j8.ok Tryz.prog (Y3 89 [pA 0] (pS p) (.tup [iA (Y6 p false).1,iA (Y6 p false).2])):=by
 refine H9 8 Tryz.func89 [dI p.vars,dI p.arrays,dT p.body] [(0,pA 0)] fun G=>?_;refine wp_seq (j9 G f8 (rg 4) [dI p.vars,dI p.arrays,dT p.body,.box (pL 0)] [(1,.ptr 3 0),(2,iA 0),(3,iA 0)] fun G=>b6 (wp_seq (j9 G (w6 1 [0,1,2] (bF3 p false ai)) [0,1,2] [dI p.vars,dI p.arrays,dT p.body] [(2,iA (Y6 p false).fst),(3,iA (Y6 p false).snd)] fun G=>b6 (wp_ret ?_))));exact O8 G [0,1,2]
section
variable{p:f7}{s:c5}{cx:Int}
end
theorem b93:∀x:Fin 4,∀y:Fin 4,∃z:Fin 4,l6 x.val y.val=(z.val:Int):=by decide+kernel
theorem aO1{x y:Int}(hx:i7 x=true)(hy:i7 y=true):i7 (l6 x y)=true:=by
 obtain⟨a,rfl⟩:=aa9 hx
 obtain⟨b,rfl⟩:=aa9 hy
 obtain⟨c,h⟩:=b93 a b
 rw[h]
 simp[i7];omega
theorem ap7{l:List Int}(h:l.all i7=true)(i:Nat):i7 (l.getD i 0)=true:=by
 rcases cx7 i l.length with hi|hi
 ·rw[n7 hi];exact cw3.1 h _ (cx9 hi)
 rw[cv8,cy1 hi];rfl
theorem ay2{vs ars:List Int}(h1:vs.all i7=true)(h2:ars.all i7=true):∀(d:Nat) (e:c6),i7 (i8 vs ars d e)=true
 |0,_=>rfl
 | d + 1, e => by
  rw[i8]
  have key:∀(ks:List c6) (a:Int),i7 a=true->i7 (ks.foldl (fun a k=>l6 a (i8 vs ars d k)) a)=true:=by
   intro ks
   induction ks with
   |nil=>intro a ha;exact ha
   |cons x r ih=>intro a ha;rw[List.foldl_cons];exact ih _ (aO1 ha (ay2 h1 h2 d x))
  refine key _ _ ?_
  unfold aG7
  split
  ·exact ap7 h1 _
  split
  ·exact ap7 h2 _
  rfl
def bO8(p:f7):Bool:=p.vars.all i7&&p.arrays.all i7
theorem bn1{p:f7}(h:m6 p=true):bO8 p=true:=by
 unfold m6 G2 at h
 simp only[cv4]at h
 unfold bO8
 rw[h.1.1.1.1.1.1,h.1.1.1.1.1.2];rfl
section
variable{p:f7}{s:c5}
end
section
variable{R:c5×Int->Int}{c a:Int}{n:Nat}{x:c5×Int}
end
section
variable{R:c5×Int->Int}{p:f7}{d:Nat}{cx:Int}{ss:List c5}{c b:Int}{n k:Nat}
end
abbrev O6:Type:=List Int×List Int
def bv(x:Int):BitVec 64:=BitVec.ofInt 64 x
def ofb(b:BitVec 64):Int:=IntKind.i64.wrap (b.toNat:Int)
theorem cd5(b:BitVec 64):bv (ofb b)=b:=by
 apply BitVec.eq_of_toNat_eq
 unfold bv ofb
 rw[BitVec.toNat_ofInt]
 have h:=b.isLt
 unfold IntKind.wrap
 simp only[IntKind.bits,IntKind.signed,Bool.true_and,decide_eq_true_eq]
 split<;>omega
theorem bY2(x y:Int):l6 x y=ofb (bv x|||bv y):=rfl
theorem bU3(x y:Int):bv (l6 x y)=bv x|||bv y:=by rw[bY2,cd5]
def leI(x y:Int):Prop:=bv x|||bv y=bv y
theorem leI.refl(x:Int):leI x x:=BitVec.or_self
theorem leI.trans{x y z:Int}(h:leI x y)(k:leI y z):leI x z:=by
 unfold leI at*
 rw[<-k, <-BitVec.or_assoc,h]
theorem aP6(x y:Int):leI x (l6 x y):=by unfold leI;rw[bU3, <-BitVec.or_assoc,BitVec.or_self]
theorem ai1{x y a b:Int}(h:leI x a)(k:leI y b):leI (l6 x y) (l6 a b):=by
 unfold leI at*
 rw[bU3,bU3,BitVec.or_assoc, <-BitVec.or_assoc (bv y),BitVec.or_comm (bv y) (bv a),BitVec.or_assoc (bv a),k, <-BitVec.or_assoc,h]
theorem cd6:∀x:Fin 4,∀y:Fin 4,bv x.val=bv y.val->x=y:=by decide+kernel
theorem cb1:∀x:Fin 4,∀y:Fin 4,bv x.val|||bv y.val=bv y.val->x.val<=y.val:=by decide+kernel
theorem leI.anti{x y:Int}(h:leI x y)(k:leI y x)(hx:i7 x=true)(hy:i7 y=true):x=y:=by
 obtain⟨a,rfl⟩:=aa9 hx
 obtain⟨b,rfl⟩:=aa9 hy
 unfold leI at*
 rw[BitVec.or_comm,h]at k
 rw[cd6 b a k]
theorem leI.nat{x y:Int}(h:leI x y)(hx:i7 x=true)(hy:i7 y=true):x.toNat<=y.toNat:=by
 obtain⟨a,rfl⟩:=aa9 hx
 obtain⟨b,rfl⟩:=aa9 hy
 have:=cb1 a b h
 omega
def leP(q r:O6):Prop:=(∀i,leI (q.1.getD i 0) (r.1.getD i 0))/\∀i,leI (q.2.getD i 0) (r.2.getD i 0)
def shP(q r:O6):Prop:=r.1.length=q.1.length/\r.2.length=q.2.length
def okP(q:O6):Prop:=q.1.all i7=true/\q.2.all i7=true
theorem leP.refl(q:O6):leP q q:=⟨fun _=>leI.refl _,fun _=>leI.refl _⟩
theorem leP.trans{q r s:O6}(h:leP q r)(k:leP r s):leP q s:=⟨fun i=>(h.1 i).trans (k.1 i),fun i=>(h.2 i).trans (k.2 i)⟩
theorem shP.refl(q:O6):shP q q:=⟨rfl,rfl⟩
theorem shP.trans{q r s:O6}(h:shP q r)(k:shP r s):shP q s:=⟨k.1.trans h.1,k.2.trans h.2⟩
theorem shP.symm{q r:O6}(h:shP q r):shP r q:=⟨h.1.symm,h.2.symm⟩
theorem aZ5{a b:List Int}(hl:b.length=a.length)(h:∀i,leI (a.getD i 0) (b.getD i 0))(k:∀i,leI (b.getD i 0) (a.getD i 0))(ha:a.all i7=true)(hb:b.all i7=true):a=b:=by
 apply List.ext_getElem al
 intro i h1 h2
 have:=(h i).anti (k i) (ap7 ha i) (ap7 hb i)
 rw[n7 h1,n7 h2]at this
 exact this
theorem leP.anti{q r:O6}(h:leP q r)(k:leP r q)(hs:shP q r)(hq:okP q)(hr:okP r):q=r:=
 Prod.ext (aZ5 hs.1 h.1 k.1 hq.1 hr.1) (aZ5 hs.2 h.2 k.2 hq.2 hr.2)
theorem bM4{q r:O6}(h:leP q r)(e:c6):leI (aG7 q.1 q.2 e) (aG7 r.1 r.2 e):=by
 unfold aG7
 split
 ·exact h.1 _
 split
 ·exact h.2 _
 exact leI.refl _
theorem an2{q r:O6}(h:leP q r):∀(d:Nat) (e:c6),leI (i8 q.1 q.2 d e) (i8 r.1 r.2 d e)
 |0,_=>leI.refl _
 | d + 1, e => by
  rw[i8,i8]
  have key:∀(ks:List c6) (a b:Int),leI a b->leI (ks.foldl (fun a k=>l6 a (i8 q.1 q.2 d k)) a) (ks.foldl (fun a k=>l6 a (i8 r.1 r.2 d k)) b):=by
   intro ks
   induction ks with
   |nil=>intro a b hab;exact hab
   |cons x t ih=>intro a b hab;rw[List.foldl_cons,List.foldl_cons];exact ih _ _ (ai1 hab (an2 h d x))
  exact key _ _ _ (bM4 h e)
def M6(q:O6)(s:c5)(cx:Int):O6:=
 if s.kind=1 then(q.1.set s.target.toNat (l6 (l6 (q.1.getD s.target.toNat 0) (i8 q.1 q.2 5 s.value)) cx),q.2)
 else if s.kind=2 then(q.1,q.2.set s.target.toNat (l6 (l6 (l6 (q.2.getD s.target.toNat 0) (i8 q.1 q.2 5 s.value)) (i8 q.1 q.2 5 s.index)) cx))
 else q
def ak4(q:O6)(s:c5)(cx:Int):Int:=if s.kind=3 then l6 cx (i8 q.1 q.2 5 s.value)else cx
def upS(b:Bool):Nat->O6->Int->c5->O6
 |0,q,_,_=>q
 |d+1,q,cx,s=>s.els.foldl (fun r t=>upS b d r (ak4 (if b then s.body.foldl (fun r t=>upS b d r (ak4 (M6 q s cx) s cx) t) (M6 q s cx)else M6 q s cx) s cx) t) (s.body.foldl (fun r t=>upS b d r (ak4 (M6 q s cx) s cx) t) (M6 q s cx))
abbrev C4(b:Bool)(d:Nat)(q:O6)(cx:Int)(ss:List c5):O6:=ss.foldl (fun r t=>upS b d r cx t) q
theorem al5(b:Bool)(d:Nat)(q:O6)(cx:Int)(s:c5):upS b (d+1) q cx s=C4 b d (C4 b d (M6 q s cx) (ak4 (M6 q s cx) s cx) s.body) (ak4 (if b then C4 b d (M6 q s cx) (ak4 (M6 q s cx) s cx) s.body else M6 q s cx) s cx) s.els:=by rw[upS]
theorem aN3(l:List Int)(t i:Nat)(x:Int):(l.set t x).getD i 0=if t=i/\t<l.length then x else l.getD i 0:=by
 simp only[cv8,List.getElem?_set]
 by_cases h:t=i
 ·subst h
  by_cases h2:t<l.length
  ·simp[h2]
  simp[h2]
 simp[h]
theorem bv0{l:List Int}{t:Nat}{x:Int}(h:l.all i7=true)(hx:i7 x=true):(l.set t x).all i7=true:=by
 rw[cw3]at*
 intro y hy
 rcases List.mem_or_eq_of_mem_set hy with h1|h1
 ·exact h y h1
 rw[h1];exact hx
theorem bn9(q:O6)(s:c5)(cx:Int):shP q (M6 q s cx):=by
 unfold M6
 split
 ·exact⟨an,rfl⟩
 split
 ·exact⟨rfl,an⟩
 exact shP.refl _
theorem bb1{l:List Int}{t:Nat}{x:Int}(h:leI (l.getD t 0) x)(i:Nat):leI (l.getD i 0) ((l.set t x).getD i 0):=by
 rw[aN3]
 split
 ·rename_i h1;rw[<-h1.1];exact h
 exact leI.refl _
theorem bb0{l m:List Int}{t:Nat}{x y:Int}(hl:m.length=l.length)(h:∀i,leI (l.getD i 0) (m.getD i 0))(hx:leI x y)(i:Nat):leI ((l.set t x).getD i 0) ((m.set t y).getD i 0):=by
 rw[aN3,aN3,hl]
 split
 ·exact hx
 exact h i
theorem bM8(q:O6)(s:c5)(cx:Int):leP q (M6 q s cx):=by
 unfold M6
 split
 ·exact⟨bb1 ((aP6 _ _).trans (aP6 _ _)),fun _=>leI.refl _⟩
 split
 ·exact⟨fun _=>leI.refl _,bb1 (((aP6 _ _).trans (aP6 _ _)).trans (aP6 _ _))⟩
 exact leP.refl _
theorem bM7{q r:O6}(h:leP q r)(hs:shP q r){cx cy:Int}(hc:leI cx cy)(s:c5):leP (M6 q s cx) (M6 r s cy):=by
 unfold M6
 split
 ·exact⟨bb0 hs.1 h.1 (ai1 (ai1 (h.1 _) (an2 h 5 _)) hc),h.2⟩
 split
 ·exact⟨h.1,bb0 hs.2 h.2 (ai1 (ai1 (ai1 (h.2 _) (an2 h 5 _)) (an2 h 5 _)) hc)⟩
 exact h
theorem b97{q:O6}(h:okP q){cx:Int}(hc:i7 cx=true)(s:c5):okP (M6 q s cx):=by
 unfold M6
 split
 ·exact⟨bv0 h.1 (aO1 (aO1 (ap7 h.1 _) (ay2 h.1 h.2 5 _)) hc),h.2⟩
 split
 ·exact⟨h.1,bv0 h.2 (aO1 (aO1 (aO1 (ap7 h.2 _) (ay2 h.1 h.2 5 _)) (ay2 h.1 h.2 5 _)) hc)⟩
 exact h
theorem be5{q r:O6}(h:leP q r){cx cy:Int}(hc:leI cx cy)(s:c5):leI (ak4 q s cx) (ak4 r s cy):=by
 unfold ak4
 split
 ·exact ai1 hc (an2 h 5 _)
 exact hc
theorem bP9{q:O6}(h:okP q){cx:Int}(hc:i7 cx=true)(s:c5):i7 (ak4 q s cx)=true:=by
 unfold ak4
 split
 ·exact aO1 hc (ay2 h.1 h.2 5 _)
 exact hc
theorem ap8{F:O6->c5->O6}(hF:∀q s,shP q (F q s)):∀(ss:List c5) (q:O6),shP q (ss.foldl F q)
 |[],q=>shP.refl q
 |s::r,q=>(hF q s).trans (ap8 hF r _)
theorem ah1{F:O6->c5->O6}(hF:∀q s,leP q (F q s)):∀(ss:List c5) (q:O6),leP q (ss.foldl F q)
 |[],q=>leP.refl q
 |s::r,q=>(hF q s).trans (ah1 hF r _)
theorem aJ3{F:O6->c5->O6}(hF:∀q s,okP q->okP (F q s)):∀(ss:List c5) (q:O6),okP q->okP (ss.foldl F q)
 |[],_,h=>h
 |s::r,q,h=>aJ3 hF r _ (hF q s h)
theorem ap9{F G:O6->c5->O6}(hF:∀q s,shP q (F q s))(hG:∀q s,shP q (G q s))(h:∀q r s,shP q r->leP q r->leP (F q s) (G r s)):∀(ss:List c5) (q r:O6),shP q r->leP q r->leP (ss.foldl F q) (ss.foldl G r)
 |[],_,_,_,hl=>hl
 |s::t,q,r,hs,hl=>ap9 hF hG h t _ _ (((hF q s).symm.trans hs).trans (hG r s)) (h q r s hs hl)
theorem al4(b:Bool):∀(d:Nat) (cx:Int) (q:O6) (s:c5),shP q (upS b d q cx s)
 |0,_,q,_=>shP.refl q
 |d+1,cx,q,s=>by
  rw[al5]
  exact((bn9 q s cx).trans (ap8 (fun q s=>al4 b d _ q s) _ _)).trans (ap8 (fun q s=>al4 b d _ q s) _ _)
theorem aI1(b:Bool):∀(d:Nat) (cx:Int) (q:O6) (s:c5),leP q (upS b d q cx s)
 |0,_,q,_=>leP.refl q
 |d+1,cx,q,s=>by
  rw[al5]
  exact((bM8 q s cx).trans (ah1 (fun q s=>aI1 b d _ q s) _ _)).trans (ah1 (fun q s=>aI1 b d _ q s) _ _)
theorem bI1(b:Bool):∀(d:Nat) (cx:Int) (q:O6) (s:c5),i7 cx=true->okP q->okP (upS b d q cx s)
 |0,_,_,_,_,h=>h
 |d+1,cx,q,s,hc,h=>by
  rw[al5]
  have h1:=b97 h hc s
  have h2:okP (C4 b d (M6 q s cx) (ak4 (M6 q s cx) s cx) s.body):=aJ3 (fun q t hq=>bI1 b d _ q t (bP9 h1 hc s) hq) _ _ h1
  refine aJ3 (fun q t hq=>bI1 b d _ q t (bP9 ?_ hc s) hq) _ _ h2
  split
  ·exact h2
  exact h1
theorem a24{b b':Bool}(hb:b=true->b'=true):∀(d:Nat) (cx cy:Int) (q r:O6) (s:c5),leI cx cy->shP q r->leP q r->leP (upS b d q cx s) (upS b' d r cy s)
 |0,_,_,_,_,_,_,_,h=>h
 | d + 1, cx, cy, q, r, s, hc, hs, h => by
  rw[al5,al5]
  have h1:=bM7 h hs hc s
  have s1:shP (M6 q s cx) (M6 r s cy):=((bn9 q s cx).symm.trans hs).trans (bn9 r s cy)
  have hi:=be5 h1 hc s
  have h2:leP (C4 b d (M6 q s cx) (ak4 (M6 q s cx) s cx) s.body) (C4 b' d (M6 r s cy) (ak4 (M6 r s cy) s cy) s.body):=ap9 (fun q t=>al4 b d _ q t) (fun q t=>al4 b' d _ q t) (fun q r t hs hl=>a24 hb d _ _ q r t hi hs hl) _ _ _ s1 h1
  have s2:shP (C4 b d (M6 q s cx) (ak4 (M6 q s cx) s cx) s.body) (C4 b' d (M6 r s cy) (ak4 (M6 r s cy) s cy) s.body):=((ap8 (fun q t=>al4 b d _ q t) _ _).symm.trans s1).trans (ap8 (fun q t=>al4 b' d _ q t) _ _)
  refine ap9 (fun q t=>al4 b d _ q t) (fun q t=>al4 b' d _ q t) (fun q r t hs hl=>a24 hb d _ _ q r t ?_ hs hl) _ _ _ s2 h2
  refine be5 ?_ hc s
  cases b with
  |true=>
   have e:=hb rfl
   subst e
   exact h2
  |false=>
   simp only[Bool.false_eq_true,if_false]
   split
   ·exact h1.trans (ah1 (fun q t=>aI1 b' d _ q t) _ _)
   exact h1
section
variable{b:Bool}{d:Nat}{cx:Int}{q r:O6}{ss:List c5}
theorem at6:shP q (C4 b d q cx ss):=ap8 (fun q t=>al4 b d _ q t) _ _
theorem aL8:leP q (C4 b d q cx ss):=ah1 (fun q t=>aI1 b d _ q t) _ _
theorem bI2(hc:i7 cx=true)(h:okP q):okP (C4 b d q cx ss):=aJ3 (fun q t hq=>bI1 b d _ q t hc hq) _ _ h
end
def a29(l:List Int):Nat:=(l.map Int.toNat).sum
def aU2(q:O6):Nat:=a29 q.1+a29 q.2
theorem a28:∀{a b:List Int},b.length=a.length->a.all i7=true->b.all i7=true->(∀i,leI (a.getD i 0) (b.getD i 0))->a29 a<=a29 b/\(a29 a=a29 b->a=b)
 |[],b,hl,_,_,_=>by rw[cw9 hl];exact⟨cv7 _,fun _=>rfl⟩
 |x::r,[],hl,_,_,_=>by cases hl
 |x::r,y::t,hl,ha,hb,h=>by
  simp only[List.all_cons,cv4]at ha hb
  have h0:=h 0
  simp at h0
  obtain⟨k1,k2⟩:=a28 (a:=r) (b:=t) (by simpa using hl) ha.2 hb.2 fun i=>by have:=h (i+1);simpa using this
  have k3:=h0.nat ha.1 hb.1
  simp only[a29,cy8,List.sum_cons]at k1 k2 ⊢
  refine⟨al,fun e=>?_⟩
  obtain⟨a,rfl⟩:=aa9 ha.1
  obtain⟨b,rfl⟩:=aa9 hb.1
  rw[k2 al]
  congr 1
  omega
theorem aM6:∀{l:List Int},l.all i7=true->a29 l<=3*l.length
 |[],_=>cy4 _
 |x::r,h=>by
  simp only[List.all_cons,cv4]at h
  have h1:=aM6 h.2
  obtain⟨a,rfl⟩:=aa9 h.1
  simp only[a29,cy8,List.sum_cons,cw2]at h1 ⊢
  omega
theorem bu6{q r:O6}(hs:shP q r)(hq:okP q)(hr:okP r)(h:leP q r)(hne:¬r=q):aU2 q<aU2 r:=by
 obtain⟨a1,a2⟩:=a28 hs.1 hq.1 hr.1 h.1
 obtain⟨b1,b2⟩:=a28 hs.2 hq.2 hr.2 h.2
 unfold aU2
 refine Nat.lt_of_not_le fun hle=>hne (Prod.ext (a2 al).symm (b2 al).symm)
theorem ba3{q:O6}(hq:okP q):aU2 q<=3*(q.1.length+q.2.length):=by
 have h1:=aM6 hq.1
 have h2:=aM6 hq.2
 unfold aU2;omega
def ak8(b:List c5)(p q:O6):Prop:=shP p q/\okP q/\leP p q/\∀r,shP p r->okP r->leP p r->C4 true 5 r 0 b=r->leP q r
theorem au5{b:List c5}{p:O6}(h:okP p):ak8 b p p:=⟨shP.refl _,h,leP.refl _,fun _ _ _ h _=>h⟩
theorem ap6{b:List c5}{p q:O6}{f:Bool}(h:ak8 b p q):ak8 b p (C4 f 5 q 0 b):=
 ⟨h.1.trans at6,bI2 rfl h.2.1,h.2.2.1.trans aL8,fun r h1 h2 h3 h4=>by
  have h5:=h.2.2.2 r h1 h2 h3 h4
  have:=ap9 (fun q t=>al4 f 5 0 q t) (fun q t=>al4 true 5 0 q t) (fun q r t hs hl=>a24 (b:=f) (b':=true) (fun _=>rfl) 5 0 0 q r t (leI.refl _) hs hl) b q r (h.1.symm.trans h1) h5
  rw[show b.foldl (fun q t=>upS true 5 q 0 t) r=r from h4]at this
  exact this⟩
theorem be6{b:List c5}{p q r:O6}(hq:ak8 b p q)(hr:ak8 b p r)(fq:C4 true 5 q 0 b=q)(fr:C4 true 5 r 0 b=r):q=r:=
 (hq.2.2.2 r hr.1 hr.2.1 hr.2.2.1 fr).anti (hr.2.2.2 q hq.1 hq.2.1 hq.2.2.1 fq) (hq.1.symm.trans hr.1) hq.2.1 hr.2.1
def aU7(b:List c5):Nat->O6->O6
 |0,q=>q
 |n+1,q=>aU7 b n (C4 true 5 q 0 b)
def aC2(p:f7):O6:=aU7 p.body 64 (p.vars,p.arrays)
theorem be7{b:List c5}{p:O6}:∀(n:Nat) (q:O6),ak8 b p q->ak8 b p (aU7 b n q)
 |0,_,h=>h
 |n+1,q,h=>be7 n _ (ap6 h)
theorem be8{b:List c5}:∀(n:Nat) {q:O6},C4 true 5 q 0 b=q->aU7 b n q=q
 |0,_,_=>rfl
 |n+1,q,h=>by rw[aU7,h];exact be8 n h
theorem be9{b:List c5}{p:O6}:∀(n:Nat) (q:O6),ak8 b p q->C4 true 5 (aU7 b n q) 0 b=aU7 b n q\/aU2 q+n<=aU2 (aU7 b n q)
 |0,_,_=>.inr (cv7 _)
 | n + 1, q, h => by
  rw[aU7]
  by_cases e:C4 true 5 q 0 b=q
  ·left
   rw[e,be8 n e,e]
  have h1:=bu6 at6 h.2.1 (bI2 rfl h.2.1) aL8 e
  rcases be9 n _ (ap6 (f:=true) h)with h2|h2
  ·exact .inl h2
  right;omega
theorem a61{p:f7}(h:m6 p=true):okP (p.vars,p.arrays):=by
 have:=bn1 h
 simp only[bO8,cv4]at this
 exact this
theorem aQ3{p:f7}(h:m6 p=true):ak8 p.body (p.vars,p.arrays) (aC2 p):=be7 64 _ (au5 (a61 h))
theorem bQ3{p:f7}(h:m6 p=true)(hl:p.vars.length+p.arrays.length<=14):C4 true 5 (aC2 p) 0 p.body=aC2 p:=by
 rcases be9 (b:=p.body) 64 (p.vars,p.arrays) (au5 (a61 h))with h1|h1
 ·exact h1
 have h2:=aQ3 h
 have h3:=ba3 h2.2.1
 have h4:=h2.1
 have h5:aU7 p.body 64 (p.vars,p.arrays)=aC2 p:=rfl
 rw[h5]at h1
 rw[h4.1,h4.2]at h3
 simp only at h3
 omega
theorem bx8{p:f7}{q:O6}(h:m6 p=true)(hl:p.vars.length+p.arrays.length<=14)(hq:ak8 p.body (p.vars,p.arrays) q)(hf:C4 true 5 q 0 p.body=q):aC2 p=q:=
 be6 (aQ3 h) hq (bQ3 h hl) hf
theorem bu5{a b:c6}(h:¬a=b):M9 a b=false:=by
 cases e:M9 a b
 ·rfl
 exact absurd ((N6 a b).1 e) h
section
variable{a b:c6}{k:Nat}
theorem sx1(h:¬a.kind=b.kind):M9 a b=false:=bu5 fun e=>h (by rw[e])
theorem sx2(h:¬a.value=b.value):M9 a b=false:=bu5 fun e=>h (by rw[e])
theorem sx3(h:¬(a.kids.length:Int)=b.kids.length):M9 a b=false:=bu5 fun e=>h (by rw[e])
theorem sx4(h:M9 (a.kids.getD k cv2) (b.kids.getD k cv2)=false):M9 a b=false:=bu5 fun e=>by
 subst e
 rw[(N6 _ _).2 rfl]at h;cases h
theorem aA8{α:Type}{l m:List α}{k:Nat}{z:α}(h:l.take k=m.take k)(h1:k<l.length)(h2:k<m.length)(e:l.getD k z=m.getD k z):l.take (k+1)=m.take (k+1):=by
 rw[n6 _ _ h1,n6 _ _ h2,h, <-n7 (d:=z) h1, <-n7 (d:=z) h2,e]
theorem aM4{α:Type}{l m:List α}{k:Nat}(h:l.take k=m.take k)(h1:l.length<=k)(h2:(l.length:Int)=m.length):l=m:=by
 rw[cw7 h1,cw7 al]at h
 exact h
theorem sx5(h1:a.kind=b.kind)(h2:a.value=b.value)(h3:(a.kids.length:Int)=b.kids.length)(h:a.kids.take k=b.kids.take k)(hk:a.kids.length<=k):M9 a b=true:=by
 refine(N6 _ _).2 ?_
 rw[<-c6.eta a, <-c6.eta b,h1,h2,aM4 h hk h3]
end
abbrev sxC(a b:c6):j8:=Y3 198 [eA a 0,eA b 1] [dE a.kids,dE b.kids] (bA (M9 a b))
theorem bX1(x y:c6)(ih:∀(u:c6),u∈x.kids->∀(v:c6),j8.ok Tryz.prog (sxC u v)):j8.ok Tryz.prog (sxC x y):=by
  refine H9 46 Tryz.func198 [dE x.kids,dE y.kids] [(0,eA x 0),(1,eA y 1)] fun G=>?_;have hl:x.kids.length<=9223372036854775807:=G.len 0 (d:=.exprs x.kids) aj;refine wp_seq (j9 G f8 [0,1,2,10] [dE x.kids,dE y.kids,.box (eL x 0),.box (eL y 1)] [(2,.ptr 2 0),(3,.ptr 3 0),(4,bA false)] fun G=>b6 (wp_seq (wp_seq ?_)));cases h0:(x.kind !=y.kind)
  ·
   have q0:=bne_eq_false_iff_eq.1 h0;cases h1:(x.value !=y.value)
   ·
    have q1:=bne_eq_false_iff_eq.1 h1;refine l8 G (K6 (fc h0 (fc h1 fz)) (us [(6,10,0),(1011,1011,0),(13,19,1),(1020,1020,1)])) [(26,bA ((x.kids.length:Int) !=(y.kids.length:Int)))] fun G=>b6 (rcN G (fun h2 q2=>?_) fun h2 q2=>?_)
    ·
     refine wp_skip (b6 (wp_seq (wp_seq (G3 G f8 [(2,.ptr 2 0),(3,.ptr 3 0),(4,bA false),(5,iA 0)] fun G=>b6 (wp_block ?_)))));refine x6 (κ:=Nat) (fun k=>k<=x.kids.length/\x.kids.take k=y.kids.take k) (fun k=>x.kids.length-k) (fun k=>[dE x.kids,dE y.kids,.box (eL x 0),.box (eL y 1)]) (fun k=>[(2,.ptr 2 0),(3,.ptr 3 0),(4,bA false),(5,iA k)]) 0 (by simp[h0,h1,h2]) (x7.at G _ _) ?_;clear G;intro k ρ a w hp G;refine wp_seq (wp_seq (l8 G f8 [(31,bA (decide ((k:Int)<x.kids.length)))] fun G=>b6 (rcD G (fun h3 q3=>?_) fun h3 q3=>?_)))
     · refine wp_exit (v8 (v8 (v6 (b6 (wp_seq (j9 G f8 [0,1] [dE x.kids,dE y.kids] [(4,bA true)] fun G=>b6 (wp_ret ?_)))))));exact M5 true G [0,1] (sx5 al al al hp.2 al)
     refine wp_skip (b6 (wp_seq (wp_block (wp_seq (ak2 G (w6 10 [36,76] (ih (x.kids.getD k cv2) (ay6 al) (y.kids.getD k cv2))) [0,1,0,7,15,0,32,0,224,480,1023,2047] [(45,.v (.bool !M9 (x.kids.getD k cv2) (y.kids.getD k cv2)))] (iX k k x.kids.length (iX k k y.kids.length [])) (iK al (iK al cx2)) fun G=>b6 ?_)))));cases h4:(!M9 (x.kids.getD k cv2) (y.kids.getD k cv2))
     · have q4:(M9 (x.kids.getD k cv2) (y.kids.getD k cv2))=true:=(Eq.mp (cy2 _) h4);refine rF G _ h4 (wp_skip (p8 (b6 (P4 G f8 [(5,iA ((k:Int)+1))] [wO ((k:Int)+1)] (o1 al) fun G=>b6 ?_))));exact U5 G (k+1) (⟨al,aA8 hp.2 al al ((N6 _ _).1 ab)⟩) al (rg 4)
     have q4:(M9 (x.kids.getD k cv2) (y.kids.getD k cv2))=false:=(Eq.mp (cy0 _) h4);refine rT G _ h4 (wp_seq (l8 G f8 [] fun G=>b6 (wp_ret (B7 (l7 (l7 (B7 (l7 ?_))))))));exact M5 false G [0,1] (sx4 ab)
    refine wp_seq (l8 G f8 [] fun G=>b6 (wp_ret (l7 ?_)));exact M5 false G [0,1] (sx3 al)
   have q1:=bne_iff_ne.1 h1;refine l8 G (K6 (fc h0 (fc h1 fz)) (us [(6,10,0),(1011,1011,0),(13,19,1),(1020,1020,1)])) [(26,bA true)] fun G=>b6 (rT G true aj (wp_seq (l8 G f8 [] fun G=>b6 (wp_ret (l7 ?_)))));exact M5 false G [0,1] (sx2 al)
  have q0:=bne_iff_ne.1 h0;refine l8 G (K6 (fc h0 (fc (b:=true) rfl fz)) (us [(6,10,0),(1011,1011,0),(13,19,1),(1020,1020,1)])) [(26,bA true)] fun G=>b6 (rT G true aj (wp_seq (l8 G f8 [] fun G=>b6 (wp_ret (l7 ?_)))));exact M5 false G [0,1] (sx1 al)
theorem aj4(x:c6):∀(y:c6),j8.ok Tryz.prog (sxC x y):=
 c6.ind (P:=fun x=>∀(y:c6),j8.ok Tryz.prog (sxC x y)) (fun k n ks ih y=>bX1 ⟨k,n,ks⟩ y fun u hu=>ih u hu) x
theorem ao3(xs ys:List Int):j8.ok Tryz.prog (Y3 172 [.ref 0,.ref 1] [dI xs,dI ys] (bA (decide (xs=ys)))):=by
  refine H9 26 Tryz.func172 [dI xs,dI ys] [(0,.ref 0),(1,.ref 1)] fun G=>?_;have hl:xs.length<=9223372036854775807:=G.len 0 (d:=.ints xs) aj;refine wp_seq (G3 G f8 [(0,.ref 0),(1,.ref 1),(4,bA false)] fun G=>b6 (wp_seq (wp_seq (l8 G f8 [(10,bA ((xs.length:Int) !=(ys.length:Int)))] fun G=>b6 (rcN G (fun h0 q0=>?_) fun h0 q0=>?_)))))
  ·
   refine wp_skip (b6 (wp_seq (wp_seq (G3 G f8 [(0,.ref 0),(1,.ref 1),(4,bA false),(5,iA 0)] fun G=>b6 (wp_block ?_)))));refine x6 (κ:=Nat) (fun k=>k<=xs.length/\xs.take k=ys.take k) (fun k=>xs.length-k) (fun k=>[dI xs,dI ys]) (fun k=>[(0,.ref 0),(1,.ref 1),(4,bA false),(5,iA k)]) 0 (by simp[h0]) (x7.at G _ _) ?_;clear G;intro k ρ a w hp G;refine wp_seq (wp_seq (l8 G f8 [(14,bA (decide ((k:Int)<xs.length)))] fun G=>b6 (rcD G (fun h1 q1=>?_) fun h1 q1=>?_)))
   · refine wp_exit (v8 (v8 (v6 (b6 (wp_seq (l8 G f8 [(4,bA true)] fun G=>b6 (wp_ret ?_)))))));exact M5 true G [0,1] (decide_eq_true (aM4 hp.2 al al))
   refine wp_skip (b6 (wp_seq (wp_block (wp_seq (ak2 G f8 [0,0,3,7,0,0,48,112,255] [(25,bA (xs.getD k 0 !=ys.getD k 0))] (iX k k xs.length (iX k k ys.length [])) (iK al (iK al cx2)) fun G=>b6 (rcN G (fun h2 q2=>?_) fun h2 q2=>?_))))))
   · refine wp_skip (p8 (b6 (P4 G f8 [(5,iA ((k:Int)+1))] [wO ((k:Int)+1)] (o1 al) fun G=>b6 ?_)));exact U5 G (k+1) (⟨al,aA8 hp.2 al al al⟩) al [0,1]
   refine wp_seq (l8 G f8 [] fun G=>b6 (wp_ret (B7 (l7 (l7 (B7 (l7 ?_)))))));exact M5 false G [0,1] (by exact decide_eq_false fun e=>by subst e;omega)
  refine wp_seq (l8 G f8 [] fun G=>b6 (wp_ret (l7 ?_)));exact M5 false G [0,1] (by exact decide_eq_false fun e=>by subst e;omega)
theorem aM8{s t:c5}(h:¬s=t):S7 s t=false:=by
 cases e:S7 s t
 ·rfl
 exact absurd ((am1 s t).1 e) h
theorem b44{l m:List c5}(h:¬l=m):B5 l m=false:=by
 cases e:B5 l m
 ·rfl
 exact absurd ((I6 l m).1 e) h
section
variable{s t:c5}{l m:List c5}{k:Nat}
theorem sr1(h:¬s.kind=t.kind):S7 s t=false:=aM8 fun e=>h (by rw[e])
theorem sr2(h:¬s.target=t.target):S7 s t=false:=aM8 fun e=>h (by rw[e])
theorem sr3(h:¬s.count=t.count):S7 s t=false:=aM8 fun e=>h (by rw[e])
theorem sr4(h:M9 s.index t.index=false):S7 s t=false:=aM8 fun e=>by subst e;rw[(N6 _ _).2 rfl]at h;cases h
theorem sr5(h:M9 s.value t.value=false):S7 s t=false:=aM8 fun e=>by subst e;rw[(N6 _ _).2 rfl]at h;cases h
theorem sr6(h:B5 s.body t.body=false):S7 s t=false:=aM8 fun e=>by subst e;rw[(I6 _ _).2 rfl]at h;cases h
theorem sr7(h:B5 s.els t.els=false):S7 s t=false:=aM8 fun e=>by subst e;rw[(I6 _ _).2 rfl]at h;cases h
theorem sr8(h1:s.kind=t.kind)(h2:s.target=t.target)(h3:s.count=t.count)(h4:M9 s.index t.index=true)(h5:M9 s.value t.value=true)(h6:B5 s.body t.body=true):S7 s t=B5 s.els t.els:=by
 cases e:B5 s.els t.els
 ·exact sr7 e
 refine(am1 _ _).2 ?_
 rw[<-c5.eta s, <-c5.eta t,h1,h2,h3,(N6 _ _).1 h4,(N6 _ _).1 h5,(I6 _ _).1 h6,(I6 _ _).1 e]
theorem sb1(h:¬(l.length:Int)=m.length):B5 l m=false:=b44 fun e=>h (by rw[e])
theorem sb2(h:S7 (l.getD k cv2) (m.getD k cv2)=false):B5 l m=false:=b44 fun e=>by
 subst e
 rw[(am1 _ _).2 rfl]at h;cases h
theorem sb3(h3:(l.length:Int)=m.length)(h:l.take k=m.take k)(hk:l.length<=k):B5 l m=true:=(I6 _ _).2 (aM4 h hk h3)
end
abbrev sbC(l m:List c5):j8:=Y3 173 [.ref 0,.ref 1] [dT l,dT m] (bA (B5 l m))
abbrev ssC(s t:c5):j8:=Y3 190 [sA s 0,sA t 4] (sS s++sS t) (bA (S7 s t))
abbrev av3(s:c5)(t:c5)(r0:List It):List It:=dE s.index.kids::dE s.value.kids::dT s.body::dT s.els::dE t.index.kids::dE t.value.kids::dT t.body::dT t.els::r0
theorem bX2(s t:c5)(ih1:∀(m:List c5),j8.ok Tryz.prog (sbC s.body m))(ih2:∀(m:List c5),j8.ok Tryz.prog (sbC s.els m)):j8.ok Tryz.prog (ssC s t):=by
  refine H9 52 Tryz.func190 (av3 s t []) [(0,sA s 0),(1,sA t 4)] fun G=>?_;refine wp_seq (j9 G f8 [0,1,2,3,4,5,6,7,8,16] (av3 s t [.box (sL s 0),.box (sL t 4)]) [(2,.ptr 8 0),(3,.ptr 9 0),(4,bA false)] fun G=>b6 (wp_seq ?_));cases h0:(s.kind==t.kind)
  · have q0:=ne_of_beq_false h0;refine j9 G (K6 (fc h0 (fc (b:=false) rfl fz)) (us [(6,10,0),(1011,1011,0),(13,17,1),(1018,1018,1),(20,24,1),(1025,1025,1),(27,31,1),(1032,1032,1),(34,38,1),(1039,1039,1),(41,45,1),(1046,1046,1)])) (rg 8) (av3 s t []) [(4,bA false)] fun G=>b6 (wp_ret ?_);exact M5 false G (rg 8) (sr1 al)
  have q0:=eq_of_beq h0;cases h1:(s.target==t.target)
  · have q1:=ne_of_beq_false h1;refine j9 G (K6 (fc h0 (fc h1 (fc (b:=false) rfl fz))) (us [(6,10,0),(1011,1011,0),(13,17,1),(1018,1018,1),(20,24,2),(1025,1025,2),(27,31,2),(1032,1032,2),(34,38,2),(1039,1039,2),(41,45,2),(1046,1046,2)])) (rg 8) (av3 s t []) [(4,bA false)] fun G=>b6 (wp_ret ?_);exact M5 false G (rg 8) (sr2 al)
  have q1:=eq_of_beq h1;cases h2:(s.count==t.count)
  · have q2:=ne_of_beq_false h2;refine j9 G (K6 (fc h0 (fc h1 (fc h2 (fc (b:=false) rfl fz)))) (us [(6,10,0),(1011,1011,0),(13,17,1),(1018,1018,1),(20,24,2),(1025,1025,2),(27,31,3),(1032,1032,3),(34,38,3),(1039,1039,3),(41,45,3),(1046,1046,3)])) (rg 8) (av3 s t []) [(4,bA false)] fun G=>b6 (wp_ret ?_);exact M5 false G (rg 8) (sr3 al)
  have q2:=eq_of_beq h2;cases h3:(M9 s.index t.index)
  · refine j9 G (I2 (v9 24 [0,4] (aj4 s.index t.index) I1) (fc h0 (fc h1 (fc h2 (fc h3 (fc (b:=false) rfl fz))))) (us [(6,10,0),(1011,1011,0),(13,17,1),(1018,1018,1),(20,24,2),(1025,1025,2),(27,31,3),(1032,1032,3),(34,38,4),(1039,1039,4),(41,45,4),(1046,1046,4)])) (rg 8) (av3 s t []) [(4,bA false)] fun G=>b6 (wp_ret ?_);exact M5 false G (rg 8) (sr4 ab)
  cases h4:(M9 s.value t.value)
  · refine j9 G (I2 (v9 24 [0,4] (aj4 s.index t.index) (v9 31 [1,5] (aj4 s.value t.value) I1)) (fc h0 (fc h1 (fc h2 (fc h3 (fc h4 (fc (b:=false) rfl fz)))))) (us [(6,10,0),(1011,1011,0),(13,17,1),(1018,1018,1),(20,24,2),(1025,1025,2),(27,31,3),(1032,1032,3),(34,38,4),(1039,1039,4),(41,45,5),(1046,1046,5)])) (rg 8) (av3 s t []) [(4,bA false)] fun G=>b6 (wp_ret ?_);exact M5 false G (rg 8) (sr5 ab)
  cases h5:(B5 s.body t.body)
  · refine j9 G (I2 (v9 24 [0,4] (aj4 s.index t.index) (v9 31 [1,5] (aj4 s.value t.value) (v9 38 [2,6] (ih1 t.body) I1))) (fc h0 (fc h1 (fc h2 (fc h3 (fc h4 (fc h5 fz)))))) (us [(6,10,0),(1011,1011,0),(13,17,1),(1018,1018,1),(20,24,2),(1025,1025,2),(27,31,3),(1032,1032,3),(34,38,4),(1039,1039,4),(41,45,5),(1046,1046,5)])) (rg 8) (av3 s t []) [(4,bA false)] fun G=>b6 (wp_ret ?_);exact M5 false G (rg 8) (sr6 ab)
  refine j9 G (I2 (v9 24 [0,4] (aj4 s.index t.index) (v9 31 [1,5] (aj4 s.value t.value) (v9 38 [2,6] (ih1 t.body) (v9 45 [3,7] (ih2 t.els) I1)))) (fc h0 (fc h1 (fc h2 (fc h3 (fc h4 (fc h5 fz)))))) (us [(6,10,0),(1011,1011,0),(13,17,1),(1018,1018,1),(20,24,2),(1025,1025,2),(27,31,3),(1032,1032,3),(34,38,4),(1039,1039,4),(41,45,5),(1046,1046,5)])) (rg 8) (av3 s t []) [(4,bA (B5 s.els t.els))] fun G=>b6 (wp_ret ?_);exact M5 (B5 s.els t.els) G (rg 8) (sr8 al al al ab ab ab)
theorem a40(l m:List c5)(ih:∀(s:c5),s∈l->∀(t:c5),j8.ok Tryz.prog (ssC s t)):j8.ok Tryz.prog (sbC l m):=by
  refine H9 27 Tryz.func173 [dT l,dT m] [(0,.ref 0),(1,.ref 1)] fun G=>?_;have hl:l.length<=9223372036854775807:=G.len 0 (d:=.stmts l) aj;refine wp_seq (G3 G f8 [(0,.ref 0),(1,.ref 1),(4,bA false)] fun G=>b6 (wp_seq (wp_seq (l8 G f8 [(10,bA ((l.length:Int) !=(m.length:Int)))] fun G=>b6 (rcN G (fun h0 q0=>?_) fun h0 q0=>?_)))))
  ·
   refine wp_skip (b6 (wp_seq (wp_seq (G3 G f8 [(0,.ref 0),(1,.ref 1),(4,bA false),(5,iA 0)] fun G=>b6 (wp_block ?_)))));refine x6 (κ:=Nat) (fun k=>k<=l.length/\l.take k=m.take k) (fun k=>l.length-k) (fun k=>[dT l,dT m]) (fun k=>[(0,.ref 0),(1,.ref 1),(4,bA false),(5,iA k)]) 0 (by simp[h0]) (x7.at G _ _) ?_;clear G;intro k ρ a w hp G;refine wp_seq (wp_seq (l8 G f8 [(14,bA (decide ((k:Int)<l.length)))] fun G=>b6 (rcD G (fun h1 q1=>?_) fun h1 q1=>?_)))
   · refine wp_exit (v8 (v8 (v6 (b6 (wp_seq (l8 G f8 [(4,bA true)] fun G=>b6 (wp_ret ?_)))))));exact M5 true G [0,1] (sb3 al hp.2 al)
   refine wp_skip (b6 (wp_seq (wp_block (wp_seq (ak2 G (w6 8 [26,27,28,29,58,59,60,61] (ih (l.getD k cv2) (ah0 al) (m.getD k cv2))) [0,0,3,7,0,0,48,112,255,511] [(26,.v (.bool !S7 (l.getD k cv2) (m.getD k cv2)))] (iX k k l.length (iX k k m.length [])) (iK al (iK al cx2)) fun G=>b6 ?_)))));cases h2:(!S7 (l.getD k cv2) (m.getD k cv2))
   · have q2:(S7 (l.getD k cv2) (m.getD k cv2))=true:=(Eq.mp (cy2 _) h2);refine rF G _ h2 (wp_skip (p8 (b6 (P4 G f8 [(5,iA ((k:Int)+1))] [wO ((k:Int)+1)] (o1 al) fun G=>b6 ?_))));exact U5 G (k+1) (⟨al,aA8 hp.2 al al ((am1 _ _).1 ab)⟩) al [0,1]
   have q2:(S7 (l.getD k cv2) (m.getD k cv2))=false:=(Eq.mp (cy0 _) h2);refine rT G _ h2 (wp_seq (l8 G f8 [] fun G=>b6 (wp_ret (B7 (l7 (l7 (B7 (l7 ?_))))))));exact M5 false G [0,1] (sb2 ab)
  refine wp_seq (l8 G f8 [] fun G=>b6 (wp_ret (l7 ?_)));exact M5 false G [0,1] (sb1 al)
theorem b77(s:c5):∀(t:c5),j8.ok Tryz.prog (ssC s t):=
 c5.ind (P:=fun s=>∀(t:c5),j8.ok Tryz.prog (ssC s t)) (fun k t i v c b e h1 h2 u=>bX2 ⟨k,t,i,v,c,b,e⟩ u (fun m=>a40 b m fun s hs=>h1 s hs) fun m=>a40 e m fun s hs=>h2 s hs) s
theorem b19(l m:List c5):j8.ok Tryz.prog (sbC l m):=a40 l m fun s _=>b77 s
theorem aV3(xs xt:List Int)(l:List c5)(ys yt:List Int)(m:List c5):j8.ok Tryz.prog (Y3 128 [pA 0,pA 3] [dI xs,dI xt,dT l,dI ys,dI yt,dT m] (bA (decide (xs=ys)&&(decide (xt=yt)&&B5 l m)))):=by
  refine H9 24 Tryz.func128 [dI xs,dI xt,dT l,dI ys,dI yt,dT m] [(0,pA 0),(1,pA 3)] fun G=>?_;refine wp_seq (j9 G f8 [0,1,2,3,4,5,6,14] [dI xs,dI xt,dT l,dI ys,dI yt,dT m,.box (pL 0),.box (pL 3)] [(2,.ptr 6 0),(3,.ptr 7 0),(4,bA false)] fun G=>b6 (wp_seq ?_));cases h0:(decide (xs=ys))
  · have q0:=dFf h0;refine j9 G (I2 (v9 4 [0,3] (ao3 xs ys) I1) (fc h0 (fc (b:=false) rfl fz)) (us [(6,10,0),(1011,1011,0),(13,17,1),(1018,1018,1)])) (rg 6) [dI xs,dI xt,dT l,dI ys,dI yt,dT m] [(4,bA false)] fun G=>b6 (wp_ret ?_);exact O8 G (rg 6)
  have q0:=dTt h0;cases h1:(decide (xt=yt))
  · have q1:=dFf h1;refine j9 G (I2 (v9 4 [0,3] (ao3 xs ys) (v9 10 [1,4] (ao3 xt yt) I1)) (fc h0 (fc h1 fz)) (us [(6,10,0),(1011,1011,0),(13,17,1),(1018,1018,1)])) (rg 6) [dI xs,dI xt,dT l,dI ys,dI yt,dT m] [(4,bA false)] fun G=>b6 (wp_ret ?_);exact O8 G (rg 6)
  have q1:=dTt h1;refine j9 G (I2 (v9 4 [0,3] (ao3 xs ys) (v9 10 [1,4] (ao3 xt yt) (v9 17 [2,5] (b19 l m) I1))) (fc h0 (fc h1 fz)) (us [(6,10,0),(1011,1011,0),(13,17,1),(1018,1018,1)])) (rg 6) [dI xs,dI xt,dT l,dI ys,dI yt,dT m] [(4,bA (B5 l m))] fun G=>b6 (wp_ret ?_);exact O8 G (rg 6)
theorem ad1(vs ars:List Int)(b:List c5)(e:c6)(he:i5 vs.length ars.length 5 e=true):j8.ok Tryz.prog (Y3 139 [pA 0,eA e 3] ([dI vs,dI ars,dT b]++eS e) (iA (i8 vs ars 5 e))):=P2 ⟨vs,ars,b⟩ e he
theorem aq8(vs ars:List Int)(b:List c5)(hb:vs.length+ars.length+i9 b<=1048576):j8.ok Tryz.prog ⟨90,[pA 0],[dI vs,dI ars,dT b],[dI vs,dI ars,dT b,.row 3 (.ints vs),.row 3 (.ints ars),.tree (.stmts b)],oA 3⟩:=bU0 ⟨vs,ars,b⟩ hb
theorem ab2(vs ars:List Int)(b:List c5)(hb:i9 b<=1048576):j8.ok Tryz.prog (Y3 89 [pA 0] [dI vs,dI ars,dT b] (.tup [iA (Y6 ⟨vs,ars,b⟩ false).1,iA (Y6 ⟨vs,ars,b⟩ false).2])):=bi2 ⟨vs,ars,b⟩ hb
section
variable{vs ars:List Int}{cx:Int}{s:c5}{d:Nat}{b:Bool}
theorem on1(k:s.kind=1):M6 (vs,ars) s cx=(vs.set s.target.toNat (l6 (l6 (vs.getD s.target.toNat 0) (i8 vs ars 5 s.value)) cx),ars):=if_pos k
theorem on2(k:s.kind=2):M6 (vs,ars) s cx=(vs,ars.set s.target.toNat (l6 (l6 (l6 (ars.getD s.target.toNat 0) (i8 vs ars 5 s.value)) (i8 vs ars 5 s.index)) cx)):=by unfold M6;rw[if_neg al,if_pos k]
theorem on0{q:O6}(k1:¬s.kind=1)(k2:¬s.kind=2):M6 q s cx=q:=by unfold M6;rw[if_neg k1,if_neg k2]
theorem up1{q:O6}(h1:s.body=[])(h2:s.els=[]):upS b (d+1) q cx s=M6 q s cx:=by rw[al5,h1,h2];rfl
theorem up3{q:O6}(k:s.kind=3):upS true (d+1) q cx s=C4 true d (C4 true d q (l6 cx (i8 q.1 q.2 5 s.value)) s.body) (l6 cx (i8 (C4 true d q (l6 cx (i8 q.1 q.2 5 s.value)) s.body).1 (C4 true d q (l6 cx (i8 q.1 q.2 5 s.value)) s.body).2 5 s.value)) s.els:=by
 rw[al5,on0 al al]
 unfold ak4
 simp only[if_pos k,if_true]
theorem up4{q:O6}(k:s.kind=4)(h2:s.els=[]):upS b (d+1) q cx s=C4 b d q cx s.body:=by
 rw[al5,on0 al al,h2]
 unfold ak4
 simp only[if_neg (show ¬s.kind=3 by omega)]
 rfl
theorem al6{q:O6}{ss:List c5}{k:Nat}(hk:k<ss.length):C4 b d q cx (ss.take (k+1))=upS b d (C4 b d q cx (ss.take k)) cx (ss.getD k cv2):=by
 unfold C4
 rw[n6 _ _ hk,List.foldl_append,n7 hk];rfl
theorem aI2{nv na d k:Nat}{ss:List c5}(hs:ss.all (j5 nv na (d+1))=true)(hk:k<ss.length)(k3:¬(ss.getD k cv2).kind=3):(ss.getD k cv2).els=[]/\(¬(ss.getD k cv2).kind=4->(ss.getD k cv2).body=[]):=by
 have h0:=cw3.1 hs _ (cx9 hk)
 rw[<-n7 (d:=cv2) hk]at h0
 rw[j5,cv4]at h0
 have h1:=h0.1
 unfold s6 at h1
 by_cases k4:(ss.getD k cv2).kind=4
 ·rw[if_pos (.inr k4),if_pos k4]at h1
  simp only[cv4,decide_eq_true_eq]at h1
  exact⟨cw9 h1.2.1.1.1.1,fun h=>absurd k4 h⟩
 rw[if_neg al]at h1
 simp only[cv4,decide_eq_true_eq]at h1
 exact⟨cw9 h1.1.1.2,fun _=>cw9 h1.1.1.1⟩
section
variable{nv na d k:Nat}{ss:List c5}{q:O6}{cx:Int}
theorem rn1(hs:ss.all (j5 nv na (d+1))=true)(hk:k<ss.length)(k1:(ss.getD k cv2).kind=1):C4 true (d+1) q cx (ss.take (k+1))=((C4 true (d+1) q cx (ss.take k)).1.set (ss.getD k cv2).target.toNat (l6 (l6 ((C4 true (d+1) q cx (ss.take k)).1.getD (ss.getD k cv2).target.toNat 0) (i8 (C4 true (d+1) q cx (ss.take k)).1 (C4 true (d+1) q cx (ss.take k)).2 5 (ss.getD k cv2).value)) cx),(C4 true (d+1) q cx (ss.take k)).2):=by
 have h1:=aI2 hs hk al
 rw[al6 hk,up1 (h1.2 al) h1.1]
 exact on1 k1
theorem rn2(hs:ss.all (j5 nv na (d+1))=true)(hk:k<ss.length)(k2:(ss.getD k cv2).kind=2):C4 true (d+1) q cx (ss.take (k+1))=((C4 true (d+1) q cx (ss.take k)).1,(C4 true (d+1) q cx (ss.take k)).2.set (ss.getD k cv2).target.toNat (l6 (l6 (l6 ((C4 true (d+1) q cx (ss.take k)).2.getD (ss.getD k cv2).target.toNat 0) (i8 (C4 true (d+1) q cx (ss.take k)).1 (C4 true (d+1) q cx (ss.take k)).2 5 (ss.getD k cv2).value)) (i8 (C4 true (d+1) q cx (ss.take k)).1 (C4 true (d+1) q cx (ss.take k)).2 5 (ss.getD k cv2).index)) cx)):=by
 have h1:=aI2 hs hk al
 rw[al6 hk,up1 (h1.2 al) h1.1]
 exact on2 k2
theorem rn3(hk:k<ss.length)(k3:(ss.getD k cv2).kind=3):C4 true (d+1) q cx (ss.take (k+1))=C4 true d (C4 true d (C4 true (d+1) q cx (ss.take k)) (l6 cx (i8 (C4 true (d+1) q cx (ss.take k)).1 (C4 true (d+1) q cx (ss.take k)).2 5 (ss.getD k cv2).value)) (ss.getD k cv2).body) (l6 cx (i8 (C4 true d (C4 true (d+1) q cx (ss.take k)) (l6 cx (i8 (C4 true (d+1) q cx (ss.take k)).1 (C4 true (d+1) q cx (ss.take k)).2 5 (ss.getD k cv2).value)) (ss.getD k cv2).body).1 (C4 true d (C4 true (d+1) q cx (ss.take k)) (l6 cx (i8 (C4 true (d+1) q cx (ss.take k)).1 (C4 true (d+1) q cx (ss.take k)).2 5 (ss.getD k cv2).value)) (ss.getD k cv2).body).2 5 (ss.getD k cv2).value)) (ss.getD k cv2).els:=by
 rw[al6 hk,up3 k3]
theorem rn4(hs:ss.all (j5 nv na (d+1))=true)(hk:k<ss.length)(k4:(ss.getD k cv2).kind=4):C4 true (d+1) q cx (ss.take (k+1))=C4 true d (C4 true (d+1) q cx (ss.take k)) cx (ss.getD k cv2).body:=by
 rw[al6 hk,up4 k4 (aI2 hs hk al).1]
theorem rn0(hs:ss.all (j5 nv na (d+1))=true)(hk:k<ss.length)(k1:¬(ss.getD k cv2).kind=1)(k2:¬(ss.getD k cv2).kind=2)(k3:¬(ss.getD k cv2).kind=3)(k4:¬(ss.getD k cv2).kind=4):C4 true (d+1) q cx (ss.take (k+1))=C4 true (d+1) q cx (ss.take k):=by
 have h1:=aI2 hs hk k3
 rw[al6 hk,up1 (h1.2 k4) h1.1,on0 k1 k2]
theorem bK8(hk:ss.length<=k):C4 true (d+1) q cx ss=C4 true (d+1) q cx (ss.take k):=by rw[cw7 hk]
theorem a37{q r:O6}{s:c5}(h:shP q r)(hv:q.1.length=nv)(ha:q.2.length=na)(hh:F6 nv na s=true)(k:¬s.kind=4):i5 r.1.length r.2.length 5 s.value=true:=by rw[h.1,h.2,hv,ha];exact C1 hh k
theorem b74{q r:O6}{s:c5}(h:shP q r)(hv:q.1.length=nv)(ha:q.2.length=na)(hh:F6 nv na s=true)(k:s.kind=2):i5 r.1.length r.2.length 5 s.index=true:=by rw[h.1,h.2,hv,ha];exact aQ9 hh k
end
end
abbrev raC(vs ars:List Int)(d:Nat)(bd ss:List c5)(cx:Int):j8:=⟨127,[pA 0,.ref 3,iA cx],[.row 3 (.ints vs),.row 3 (.ints ars),dT bd,dT ss],[.row 3 (.ints (C4 true d (vs,ars) cx ss).1),.row 3 (.ints (C4 true d (vs,ars) cx ss).2),dT bd,dT ss],.tup []⟩
abbrev al0(d:Nat)(ss:List c5)(vs:List Int)(ars:List Int)(cx:Int)(k:Nat):=C4 true d (C4 true (d+1) (vs,ars) cx (cw1 k ss)) (l6 cx (i8 (C4 true (d+1) (vs,ars) cx (cw1 k ss)).fst (C4 true (d+1) (vs,ars) cx (cw1 k ss)).snd 5 (ss.getD k cv2).value)) (ss.getD k cv2).body
abbrev y5(d:Nat)(ss:List c5)(vs:List Int)(ars:List Int)(cx:Int)(k:Nat):=C4 true (d+1) (vs,ars) cx (cw1 k ss)
abbrev bs9(d:Nat)(ss:List c5)(vs:List Int)(ars:List Int)(cx:Int)(k:Nat):=C4 true d (al0 d ss vs ars cx k) (l6 cx (i8 (al0 d ss vs ars cx k).fst (al0 d ss vs ars cx k).snd 5 (ss.getD k cv2).value)) (ss.getD k cv2).els
abbrev aK0(cx:Int)(k:Nat)(r0:List (Nat×AV)):List (Nat×AV):=(1,.ref 3)::(2,iA cx)::(3,.ptr 4 0)::(6,iA (k:Int))::r0
theorem aX6(nv na d:Nat)(bd ss:List c5)(ih:∀(vs ars:List Int) (tt:List c5) (cx:Int),0<ss.length->vs.length=nv->ars.length=na->tt.all (j5 nv na d)=true->j8.ok Tryz.prog (raC vs ars d bd tt cx))
    (vs ars:List Int) (cx:Int) (hv:vs.length=nv) (ha:ars.length=na) (hs:ss.all (j5 nv na (d+1))=true):j8.ok Tryz.prog (raC vs ars (d+1) bd ss cx):=by
  refine H9 94 Tryz.func127 [.row 3 (D.ints vs),.row 3 (D.ints ars),dT bd,dT ss] [(0,pA 0),(1,.ref 3),(2,iA cx)] fun G=>?_;have hlen:ss.length<=9223372036854775807:=G.len 3 (d:=.stmts ss) aj;refine wp_seq (j9 G f8 (rg 5) [.row 3 (D.ints vs),.row 3 (D.ints ars),dT bd,dT ss,.box (pL 0)] [(1,.ref 3),(2,iA cx),(3,.ptr 4 0)] fun G=>b6 (wp_seq (G3 G f8 [(1,.ref 3),(2,iA cx),(3,.ptr 4 0),(6,iA 0)] fun G=>b6 (wp_block ?_))));refine x6 (κ:=Nat) (fun k=>k<=ss.length) (fun k=>ss.length-k) (fun k=>[.row 3 (.ints (C4 true (d+1) (vs,ars) cx (ss.take k)).1),.row 3 (.ints (C4 true (d+1) (vs,ars) cx (ss.take k)).2),dT bd,dT ss,.box (pL 0)]) (fun k=>[(1,.ref 3),(2,iA cx),(3,.ptr 4 0),(6,iA k)]) 0 al (x7.at G _ _) ?_;clear G;intro k ρ a w hp G;replace G:=x7.at G [.row 3 (D.ints (y5 d ss vs ars cx k).fst),.row 3 (D.ints (y5 d ss vs ars cx k).snd),dT bd,dT ss,.box (pL 0)] (aK0 cx k []);have hsh:shP (vs,ars) (C4 true (d+1) (vs,ars) cx (ss.take k)):=at6;refine wp_seq (wp_seq (l8 G f8 [(11,bA (decide ((k:Int)<ss.length)))] fun G=>b6 (rcD G (fun h0 q0=>?_) fun h0 q0=>?_)))
  · refine wp_exit (v8 (v8 (v6 ?_)));exact cq0 G (rg 4) (by show _=mR (rg 4) [.row 3 (D.ints (C4 true (d+1) (vs,ars) cx ss).fst),.row 3 (D.ints (C4 true (d+1) (vs,ars) cx ss).snd),dT bd,dT ss];have e1:((C4 true (d+1) (vs,ars) cx ss).fst:List Int)=((y5 d ss vs ars cx k).fst):=(congrArg Prod.fst (bK8 al));have e2:((C4 true (d+1) (vs,ars) cx ss).snd:List Int)=((y5 d ss vs ars cx k).snd):=(congrArg Prod.snd (bK8 al));(first|rw[e1,e2]|simp only[e1,e2])<;>rfl)
  refine wp_skip (b6 (wp_seq (wp_block (wp_seq (rA1 G f8 [0,1,2,3,4,29,30,31,32,37] [.row 3 (D.ints (y5 d ss vs ars cx k).fst),.row 3 (D.ints (y5 d ss vs ars cx k).snd),dT bd,dT ss,.box (pL 0),dE (ss.getD k cv2).index.kids,dE (ss.getD k cv2).value.kids,dT (ss.getD k cv2).body,dT (ss.getD k cv2).els,.box (sL (ss.getD k cv2) 5)] (aK0 cx k [(7,.ptr 9 0)]) (iX k k ss.length []) (iK al cx2) fun G=>b6 (wp_seq (l8 G f8 [(19,iA (ss.getD k cv2).kind)] fun G=>b6 (wp_block (wp_seq (l8 G f8 [(20,bA ((ss.getD k cv2).kind==1))] fun G=>b6 (S4 G (fun h1 q1=>?_) fun h1 q1=>?_)))))))))))
  ·
   refine wp_seq (l8 G f8 [(40,bA ((ss.getD k cv2).kind==2))] fun G=>b6 (S4 G (fun h2 q2=>?_) fun h2 q2=>?_))
   ·
    refine wp_seq (l8 G f8 [(65,bA ((ss.getD k cv2).kind==3))] fun G=>b6 (S4 G (fun h3 q3=>?_) fun h3 q3=>?_))
    ·
     refine wp_seq (l8 G f8 [(87,bA ((ss.getD k cv2).kind==4))] fun G=>b6 (S4 G (fun h4 q4=>?_) fun h4 q4=>?_))
     · refine wp_skip (p8 (p8 (b6 (rA1 G f8 (rg 5) [.row 3 (D.ints (y5 d ss vs ars cx k).fst),.row 3 (D.ints (y5 d ss vs ars cx k).snd),dT bd,dT ss,.box (pL 0)] [(1,.ref 3),(2,iA cx),(3,.ptr 4 0),(6,iA ((k:Int)+1))] [wO ((k:Int)+1)] (o1 al) fun G=>b6 ?_))));exact U5 G (k+1) al al (rg 5) (by have e1:((C4 true (d+1) (vs,ars) cx (cw1 (k+1) ss)).fst:List Int)=((y5 d ss vs ars cx k).fst):=(congrArg Prod.fst (rn0 hs al al al al al));have e2:((C4 true (d+1) (vs,ars) cx (cw1 (k+1) ss)).snd:List Int)=((y5 d ss vs ars cx k).snd):=(congrArg Prod.snd (rn0 hs al al al al al));(first|rw[e1,e2]|simp only[e1,e2])<;>rfl)
     refine j9 G (w6 4 [0,1,2,7] (ih ((y5 d ss vs ars cx k).fst) ((y5 d ss vs ars cx k).snd) ((ss.getD k cv2).body) cx al (hsh.1.trans hv) (hsh.2.trans ha) ((U8 hs al).2.1))) (rg 5) [.row 3 (D.ints (C4 true d (y5 d ss vs ars cx k) cx (ss.getD k cv2).body).fst),.row 3 (D.ints (C4 true d (y5 d ss vs ars cx k) cx (ss.getD k cv2).body).snd),dT bd,dT ss,.box (pL 0)] (aK0 cx k []) fun G=>p8 (p8 (b6 (P4 G f8 [(6,iA ((k:Int)+1))] [wO ((k:Int)+1)] (o1 al) fun G=>b6 ?_)));exact U5 G (k+1) al al (rg 5) (by have e1:((C4 true (d+1) (vs,ars) cx (cw1 (k+1) ss)).fst:List Int)=((C4 true d (y5 d ss vs ars cx k) cx (ss.getD k cv2).body).fst):=(congrArg Prod.fst (rn4 hs al al));have e2:((C4 true (d+1) (vs,ars) cx (cw1 (k+1) ss)).snd:List Int)=((C4 true d (y5 d ss vs ars cx k) cx (ss.getD k cv2).body).snd):=(congrArg Prod.snd (rn4 hs al al));(first|rw[e1,e2]|simp only[e1,e2])<;>rfl)
    refine wp_seq (ak3 G (I2 (v9 7 [0,1,2,6] (j8.lend (ad1 ((y5 d ss vs ars cx k).fst) ((y5 d ss vs ars cx k).snd) bd ((ss.getD k cv2).value) (a37 hsh hv ha (U8 hs al).1 al)) [.row 3,.row 3]) (v9 9 [0,1,2,7] (ih ((y5 d ss vs ars cx k).fst) ((y5 d ss vs ars cx k).snd) ((ss.getD k cv2).body) (l6 cx (i8 (y5 d ss vs ars cx k).fst (y5 d ss vs ars cx k).snd 5 (ss.getD k cv2).value)) al (hsh.1.trans hv) (hsh.2.trans ha) ((U8 hs al).2.1)) I1)) fz []) [0,0,2,0,0,0,32,112,248,511] (rg 10) [.row 3 (D.ints (al0 d ss vs ars cx k).fst),.row 3 (D.ints (al0 d ss vs ars cx k).snd),dT bd,dT ss,.box (pL 0),dE (ss.getD k cv2).index.kids,dE (ss.getD k cv2).value.kids,dT (ss.getD k cv2).body,dT (ss.getD k cv2).els,.box (sL (ss.getD k cv2) 5)] (aK0 cx k [(7,.ptr 9 0)]) fun G=>b6 (ak3 G (I2 (v9 7 [0,1,2,6] (j8.lend (ad1 ((al0 d ss vs ars cx k).fst) ((al0 d ss vs ars cx k).snd) bd ((ss.getD k cv2).value) (a37 (hsh.trans at6) hv ha (U8 hs al).1 al)) [.row 3,.row 3]) (v9 9 [0,1,2,8] (ih ((al0 d ss vs ars cx k).fst) ((al0 d ss vs ars cx k).snd) ((ss.getD k cv2).els) (l6 cx (i8 (al0 d ss vs ars cx k).fst (al0 d ss vs ars cx k).snd 5 (ss.getD k cv2).value)) al ((hsh.trans at6).1.trans hv) ((hsh.trans at6).2.trans ha) ((U8 hs al).2.2)) I1)) fz []) [0,0,2,0,0,0,32,112,248,511] (rg 5) [.row 3 (D.ints (bs9 d ss vs ars cx k).fst),.row 3 (D.ints (bs9 d ss vs ars cx k).snd),dT bd,dT ss,.box (pL 0)] (aK0 cx k []) fun G=>p8 (p8 (b6 (P4 G f8 [(6,iA ((k:Int)+1))] [wO ((k:Int)+1)] (o1 al) fun G=>b6 ?_)))));exact U5 G (k+1) al al (rg 5) (by have e1:((C4 true (d+1) (vs,ars) cx (cw1 (k+1) ss)).fst:List Int)=((bs9 d ss vs ars cx k).fst):=(congrArg Prod.fst (rn3 al al));have e2:((C4 true (d+1) (vs,ars) cx (cw1 (k+1) ss)).snd:List Int)=((bs9 d ss vs ars cx k).snd):=(congrArg Prod.snd (rn3 al al));(first|rw[e1,e2]|simp only[e1,e2])<;>rfl)
   refine S8 G (I2 (v9 13 [0,1,2,6] (j8.lend (ad1 ((y5 d ss vs ars cx k).fst) ((y5 d ss vs ars cx k).snd) bd ((ss.getD k cv2).value) (a37 hsh hv ha (U8 hs al).1 al)) [.row 3,.row 3]) (v9 18 [0,1,2,5] (j8.lend (ad1 ((y5 d ss vs ars cx k).fst) ((y5 d ss vs ars cx k).snd) bd ((ss.getD k cv2).index) (b74 hsh hv ha (U8 hs al).1 al)) [.row 3,.row 3]) I1)) fz []) [0,1,0,4,0,16,0,64,240,496,0,0,2048,7168,16368,0,0,65536,244736,524272,0,2097136,4194303,8388607] (rg 5) [.row 3 (D.ints (y5 d ss vs ars cx k).fst),.row 3 (D.ints ((y5 d ss vs ars cx k).snd.set (ss.getD k cv2).target.toNat (l6 (l6 (l6 ((y5 d ss vs ars cx k).snd.getD (ss.getD k cv2).target.toNat 0) (i8 (y5 d ss vs ars cx k).fst (y5 d ss vs ars cx k).snd 5 (ss.getD k cv2).value)) (i8 (y5 d ss vs ars cx k).fst (y5 d ss vs ars cx k).snd 5 (ss.getD k cv2).index)) cx))),dT bd,dT ss,.box (pL 0)] (aK0 cx k []) (iX ((ss.getD k cv2).target) ((ss.getD k cv2).target.toNat) ((C4 true (d+(1:Nat)) (vs,ars) cx (cw1 k ss)).snd.length) (iX ((ss.getD k cv2).target) ((ss.getD k cv2).target.toNat) ((C4 true (d+(1:Nat)) (vs,ars) cx (cw1 k ss)).snd.length) [])) (iK (by have h9:=aR0 (U8 (k:=k) hs al).1 al;have h8:=hsh.2.trans ha;omega) (iK (by have h9:=aR0 (U8 (k:=k) hs al).1 al;have h8:=hsh.2.trans ha;omega) cx2)) fun G=>p8 (p8 (b6 (P4 G f8 [(6,iA ((k:Int)+1))] [wO ((k:Int)+1)] (o1 al) fun G=>b6 ?_)));exact U5 G (k+1) al al (rg 5) (by have e2:((C4 true (d+1) (vs,ars) cx (cw1 (k+1) ss)).snd:List Int)=((y5 d ss vs ars cx k).snd.set (ss.getD k cv2).target.toNat (l6 (l6 (l6 ((y5 d ss vs ars cx k).snd.getD (ss.getD k cv2).target.toNat 0) (i8 (y5 d ss vs ars cx k).fst (y5 d ss vs ars cx k).snd 5 (ss.getD k cv2).value)) (i8 (y5 d ss vs ars cx k).fst (y5 d ss vs ars cx k).snd 5 (ss.getD k cv2).index)) cx)):=(congrArg Prod.snd (rn2 hs al al));have h9:=rn2 (q:=(vs,ars)) (cx:=cx) hs (show k<_ by omega) al;rw[e2,h9]<;>rfl)
  refine S8 G (w6 13 [0,1,2,6] (j8.lend (ad1 ((y5 d ss vs ars cx k).fst) ((y5 d ss vs ars cx k).snd) bd ((ss.getD k cv2).value) (a37 hsh hv ha (U8 hs al).1 al)) [.row 3,.row 3])) [0,1,0,4,0,16,0,64,240,496,0,0,2048,7168,16368,0,65520,131071,262143] (rg 5) [.row 3 (D.ints ((y5 d ss vs ars cx k).fst.set (ss.getD k cv2).target.toNat (l6 (l6 ((y5 d ss vs ars cx k).fst.getD (ss.getD k cv2).target.toNat 0) (i8 (y5 d ss vs ars cx k).fst (y5 d ss vs ars cx k).snd 5 (ss.getD k cv2).value)) cx))),.row 3 (D.ints (y5 d ss vs ars cx k).snd),dT bd,dT ss,.box (pL 0)] (aK0 cx k []) (iX ((ss.getD k cv2).target) ((ss.getD k cv2).target.toNat) ((C4 true (d+(1:Nat)) (vs,ars) cx (cw1 k ss)).fst.length) (iX ((ss.getD k cv2).target) ((ss.getD k cv2).target.toNat) ((C4 true (d+(1:Nat)) (vs,ars) cx (cw1 k ss)).fst.length) [])) (iK (by have h9:=aQ8 (U8 (k:=k) hs al).1 al;have h8:=hsh.1.trans hv;omega) (iK (by have h9:=aQ8 (U8 (k:=k) hs al).1 al;have h8:=hsh.1.trans hv;omega) cx2)) fun G=>p8 (p8 (b6 (P4 G f8 [(6,iA ((k:Int)+1))] [wO ((k:Int)+1)] (o1 al) fun G=>b6 ?_)));exact U5 G (k+1) al al (rg 5) (by have e1:((C4 true (d+1) (vs,ars) cx (cw1 (k+1) ss)).fst:List Int)=((y5 d ss vs ars cx k).fst.set (ss.getD k cv2).target.toNat (l6 (l6 ((y5 d ss vs ars cx k).fst.getD (ss.getD k cv2).target.toNat 0) (i8 (y5 d ss vs ars cx k).fst (y5 d ss vs ars cx k).snd 5 (ss.getD k cv2).value)) cx)):=(congrArg Prod.fst (rn1 hs al al));have h9:=rn1 (q:=(vs,ars)) (cx:=cx) hs (show k<_ by omega) al;rw[e1,h9]<;>rfl)
theorem br0(nv na:Nat)(bd:List c5):∀(d:Nat) (vs ars:List Int) (ss:List c5) (cx:Int),vs.length=nv->ars.length=na->ss.all (j5 nv na d)=true->j8.ok Tryz.prog (raC vs ars d bd ss cx):=by
 intro d
 induction d with
 | zero =>
  intro vs ars ss cx hv ha hs
  have h0:ss=[]:=by
   cases ss with
   |nil=>rfl
   |cons a r=>simp[j5]at hs
  subst h0
  exact aX6 nv na 0 bd [] (fun _ _ _ _ h=>absurd h an) vs ars cx hv ha rfl
 |succ d ih=>intro vs ars ss cx hv ha hs;exact aX6 nv na d bd ss (fun vs ars tt cx _ h1 h2 h3=>ih vs ars tt cx h1 h2 h3) vs ars cx hv ha hs
theorem bq9(vs ars:List Int)(b:List c5)(hs:b.all (j5 vs.length ars.length 5)=true):j8.ok Tryz.prog ⟨127,[pA 0,.ref 2,iA 0],[.row 3 (.ints vs),.row 3 (.ints ars),dT b],[.row 3 (.ints (C4 true 5 (vs,ars) 0 b).1),.row 3 (.ints (C4 true 5 (vs,ars) 0 b).2),dT b],.tup []⟩:=
 j8.dup (S:=[.row 3 (.ints vs),.row 3 (.ints ars),dT b]) (S':=[.row 3 (.ints (C4 true 5 (vs,ars) 0 b).1),.row 3 (.ints (C4 true 5 (vs,ars) 0 b).2),dT b]) (d:=.stmts b) (i:=2) (br0 _ _ b 5 vs ars b 0 rfl rfl hs) rfl rfl rfl (fun ρ h=>by simp only[AV.vals,AV.val];rw[show ρ 3=ρ 2 from h]) rfl
def okI(p:f7):Bool:=m6 p&&decide ((Y6 ⟨(aC2 p).1,(aC2 p).2,p.body⟩ false).1=0)
def ak5(p:f7):f7:=if okI p=true then⟨(aC2 p).1,(aC2 p).2,p.body⟩else⟨[],[],[]⟩
theorem aN7{p:f7}(h:m6 p=true):p.vars.length+p.arrays.length<=14:=by
 unfold m6 G2 at h
 simp only[cv4,decide_eq_true_eq]at h
 omega
section
variable{p:f7}{q:O6}{b:List c5}{X:O6}
theorem ag1(h:(decide (X.1=q.1)&&(decide (X.2=q.2)&&B5 b b))=true):X=q:=by
 simp only[cv4,decide_eq_true_eq]at h
 exact Prod.ext h.1 h.2.1
theorem bl7(h:(decide (X.1=q.1)&&(decide (X.2=q.2)&&B5 b b))=false):¬X=q:=fun e=>by
 subst e
 rw[(I6 b b).2 rfl]at h
 simp at h
theorem bQ2{f:Bool}(hp:m6 p=true)(h:ak8 p.body (p.vars,p.arrays) q)(hne:¬C4 f 5 q 0 p.body=q):100-aU2 (C4 f 5 q 0 p.body)<100-aU2 q:=by
 have h1:=ap6 (f:=f) h
 have h2:=bu6 at6 h.2.1 h1.2.1 aL8 hne
 have h3:=ba3 h1.2.1
 have h4:=aN7 hp
 rw[h1.1.1,h1.1.2]at h3
 simp only at h3
 omega
theorem bZ8(hb:p.size<=1048576)(h:ak8 p.body (p.vars,p.arrays) q):q.1.length+q.2.length+i9 p.body<=1048576:=by
 have h1:=h.1.1
 have h2:=h.1.2
 unfold f7.size at hb
 simp only at h1 h2
 omega
theorem bD7(hp:m6 p=true)(h:ak8 p.body (p.vars,p.arrays) q):p.body.all (j5 q.1.length q.2.length 5)=true:=by
 rw[h.1.1,h.1.2];exact(aB5 hp).1
theorem bN2(h:m6 p=false):okI p=false:=by unfold okI;rw[h];rfl
theorem bN3(hp:m6 p=true)(h:ak8 p.body (p.vars,p.arrays) q)(hf:C4 true 5 q 0 p.body=q):okI p=decide ((Y6 ⟨q.1,q.2,p.body⟩ false).1=0):=by
 unfold okI;rw[hp,bx8 hp (aN7 hp) h hf];rfl
theorem bx7(h:okI p=false):ak5 p=⟨[],[],[]⟩:=by unfold ak5;rw[h];rfl
theorem b00(hp:m6 p=true)(h:ak8 p.body (p.vars,p.arrays) q)(hf:C4 true 5 q 0 p.body=q)(hk:okI p=true):ak5 p=⟨q.1,q.2,p.body⟩:=by unfold ak5;rw[hk,bx8 hp (aN7 hp) h hf];rfl
theorem ci3(hp:m6 p=true)(h:ak8 p.body (p.vars,p.arrays) q)(hf:C4 true 5 q 0 p.body=q)(hc:(Y6 ⟨q.1,q.2,p.body⟩ false).1=0):okI p=true:=by rw[bN3 hp h hf];exact decide_eq_true hc
theorem ci4(hp:m6 p=true)(h:ak8 p.body (p.vars,p.arrays) q)(hf:C4 true 5 q 0 p.body=q)(hc:¬(Y6 ⟨q.1,q.2,p.body⟩ false).1=0):okI p=false:=by rw[bN3 hp h hf];exact decide_eq_false hc
end
abbrev aW0(p:f7):List It:=[dI p.vars,dI p.arrays,dT p.body,.row 3 (D.ints (ak5 p).vars),.row 3 (D.ints (ak5 p).arrays),.tree (D.stmts (ak5 p).body)]
abbrev aE0:It:=.box [.v (.slice none 0 0),.v (.slice none 0 0),.v (.slice none 0 0)]
abbrev aK7:It:=.box [.ref 4,.ref 5,.tref 6]
abbrev av2(p:f7)(q:O6)(r0:List It):List It:=.row 3 (D.ints q.fst)::.row 3 (D.ints q.snd)::.tree (D.stmts p.body)::r0
abbrev ak9(r0:List (Nat×AV)):List (Nat×AV):=(2,.ptr 3 0)::(3,bA false)::(4,.ptr 7 0)::r0
abbrev Z5(p:f7)(r0:List It):List It:=dI p.vars::dI p.arrays::dT p.body::r0
theorem aV4(p:f7)(hb:p.size<=1048576):j8.ok Tryz.prog ⟨87,[pA 0],pS p,pS p++oP (ak5 p),.tup [oA 3,bA (okI p)]⟩:=by
  refine H9 33 Tryz.func87 (Z5 p []) [(0,pA 0)] fun G=>?_
  have hb1:p.vars.length<=1048576/\p.arrays.length<=1048576/\i9 p.body<=1048576:=by unfold f7.size at hb;omega
  refine wp_seq (j9 G f8 [0,1,2,3,11] (Z5 p [.box (pL 0),aE0]) [(1,.ptr 3 0),(2,.ptr 4 0),(3,bA false)] fun G=>b6 (wp_seq (wp_seq (l8 G (w6 1 [0,1,2] (T7 p al)) [(10,.v (.bool !m6 p))] fun G=>b6 ?_))));cases h0:(!m6 p)
  ·
   have q0:(m6 p)=true:=(Eq.mp (cy2 _) h0);refine rF G _ h0 (wp_skip (b6 (wp_seq (j9 G (w6 1 [0,1,2] (aq8 p.vars p.arrays p.body ai)) [0,1,2,4,13,14,15,21] (Z5 p [aE0,.row 3 (D.ints p.vars),.row 3 (D.ints p.arrays),.tree (D.stmts p.body),aK7]) (ak9 []) fun G=>b6 (wp_seq (wp_block ?_))))));refine x6 (κ:=O6) (fun q=>ak8 p.body (p.vars,p.arrays) q) (fun q=>100-aU2 q) (fun q=>(Z5 p [aE0,.row 3 (.ints q.1),.row 3 (.ints q.2),.tree (D.stmts p.body),aK7])) (fun q=>(ak9 [])) ((p.vars,p.arrays)) (au5 (a61 ab)) (x7.at G _ _) ?_;clear G;intro q ρ a w hp G;replace G:=x7.at G (Z5 p (aE0::(av2 p q [aK7]))) (ak9 []);refine wp_block (wp_seq (j9 G (w6 1 [4,5,6] (j8.lend (aq8 q.fst q.snd p.body (bZ8 hb ab)) [.row 3,.row 3,.tree])) [0,1,2,3,4,5,6,7,16,17,18,24] (Z5 p (aE0::(av2 p q (aK7::(av2 p q [.box [.ref 8,.ref 9,.tref 10]]))))) (ak9 [(5,.ptr 11 0)]) fun G=>b6 (wp_seq (j9 G (w6 3 [8,9,10] (j8.lend (bq9 q.fst q.snd p.body (bD7 ab ab)) [.no,.no,.tree])) (rg 12) (Z5 p (aE0::(av2 p q [aK7,.row 3 (D.ints (C4 true 5 q 0 p.body).fst),.row 3 (D.ints (C4 true 5 q 0 p.body).snd),.tree (D.stmts p.body),.box [.ref 8,.ref 9,.tref 10]]))) (ak9 [(5,.ptr 11 0)]) fun G=>b6 (wp_seq (wp_seq (G3 G (w6 2 [8,9,10,4,5,6] (j8.lend (aV3 ((C4 true 5 q 0 p.body).fst) ((C4 true 5 q 0 p.body).snd) p.body q.fst q.snd p.body) [.row 3,.row 3,.tree,.row 3,.row 3,.tree])) (ak9 [(5,.ptr 11 0),(22,bA (decide ((C4 true 5 q 0 p.body).fst=q.fst)&&(decide ((C4 true 5 q 0 p.body).snd=q.snd)&&B5 p.body p.body)))]) fun G=>b6 ?_)))))));cases h1:(decide ((C4 true (5:Nat) q (0:Int) p.body).fst=q.fst)&&(decide ((C4 true (5:Nat) q (0:Int) p.body).snd=q.snd)&&B5 p.body p.body))
   · have q1:(¬((C4 true 5 q 0 p.body).fst=q.fst))\/((¬((C4 true 5 q 0 p.body).snd=q.snd))\/((B5 p.body p.body)=false)):=Or.imp (fun hq=>of_decide_eq_false hq) (fun hq=>Or.imp (fun hq=>of_decide_eq_false hq) (fun hq=>(hq)) (Bool.and_eq_false_iff.1 hq)) (Bool.and_eq_false_iff.1 h1);refine rF G _ h1 (wp_skip (b6 (j9 G f8 [0,1,2,3,7,8,9,10] (Z5 p [aE0,.box [.ref 5,.ref 6,.tref 7],.row 3 (D.ints (C4 true 5 q 0 p.body).fst),.row 3 (D.ints (C4 true 5 q 0 p.body).snd),.tree (D.stmts p.body)]) [(2,.ptr 3 0),(3,bA false),(4,.ptr 4 0)] fun G=>p8 (b6 ?_))));exact U5 G (C4 true 5 q 0 p.body) (ap6 ab) (bQ2 ab ab (bl7 ab)) [0,1,2,3,5,6,7,4]
   have q1:((C4 true 5 q 0 p.body).fst=q.fst)/\(((C4 true 5 q 0 p.body).snd=q.snd)/\((B5 p.body p.body)=true)):=And.imp (fun hq=>of_decide_eq_true hq) (fun hq=>And.imp (fun hq=>of_decide_eq_true hq) (fun hq=>(hq)) (Bool.and_eq_true_iff.1 hq)) (Bool.and_eq_true_iff.1 h1);refine rT G _ h1 (wp_exit (v8 ?_));refine b25 aj ?_;refine v8 (v6 (b6 (wp_seq (j9 G (w6 1 [4,5,6] (j8.lend (ab2 q.fst q.snd p.body al) [.row 3,.row 3,.tree])) (rg 8) (Z5 p (aE0::(av2 p q [aK7]))) (ak9 [(6,iA (Y6 (f7.mk q.fst q.snd p.body) false).fst)]) fun G=>b6 (wp_seq (wp_seq (l8 G f8 [(30,bA ((Y6 (f7.mk q.fst q.snd p.body) false).fst !=0))] fun G=>b6 (rcN G (fun h2 q2=>?_) fun h2 q2=>?_))))))))
   · refine wp_skip (b6 (wp_seq (j9 G f8 (rg 7) (Z5 p (aK7::(av2 p q []))) [(2,.ptr 3 0),(3,bA true)] fun G=>b6 (wp_ret ?_))));exact Z1 (.tup [.agg [.ref 4,.ref 5,.tref 6],bA true]) G [0,1,2,4,5,6] (by have e1:(okI p:Bool)=(true):=(ci3 ab ab (ag1 ab) ab);(first|rw[e1]|simp only[e1])<;>rfl) (by show _=mR [0,1,2,4,5,6] (aW0 p);unfold aW0;rw[b00 ab ab (ag1 ab) (ci3 ab ab (ag1 ab) ab)]<;>rfl)
   refine wp_seq (G3 G f8 (ak9 []) fun G=>b6 (wp_ret (l7 ?_)));obtain⟨ρ,G⟩:=G.nil 8 3 (.ints []) 1 (Z5 p (.box [.ref 8,.v (.slice none 0 0),.v (.slice none 0 0)]::(av2 p q [.box [.ref 4,.ref 5,.tref 6]]))) (ak9 []);obtain⟨ρ,G⟩:=G.nil 9 3 (.ints []) 1 (Z5 p (.box [.ref 8,.ref 9,.v (.slice none 0 0)]::(av2 p q [.box [.ref 4,.ref 5,.tref 6],.row 3 (D.ints [])]))) (ak9 []);obtain⟨ρ,G⟩:=G.nilT 10 (.stmts []) (Z5 p (.box [.ref 8,.ref 9,.tref 10]::(av2 p q [.box [.ref 4,.ref 5,.tref 6],.row 3 (D.ints []),.row 3 (D.ints [])]))) (ak9 []);exact Z1 (.tup [.agg [.ref 8,.ref 9,.tref 10],bA false]) G [0,1,2,8,9,10] (by have e1:(okI p:Bool)=(false):=(ci4 ab ab (ag1 ab) ab);(first|rw[e1]|simp only[e1])<;>rfl) (by show _=mR [0,1,2,8,9,10] (aW0 p);unfold aW0;rw[bx7 (ci4 ab ab (ag1 ab) ab)]<;>rfl)
  have q0:(m6 p)=false:=(Eq.mp (cy0 _) h0);refine rT G _ h0 (wp_seq (G3 G f8 [(1,.ptr 3 0),(2,.ptr 4 0),(3,bA false)] fun G=>b6 (wp_ret (l7 ?_))));obtain⟨ρ,G⟩:=G.nil 5 3 (.ints []) 1 (Z5 p [.box (pL 0),.box [.ref 5,.v (.slice none 0 0),.v (.slice none 0 0)]]) [(1,.ptr 3 0),(2,.ptr 4 0),(3,bA false)];obtain⟨ρ,G⟩:=G.nil 6 3 (.ints []) 1 (Z5 p [.box (pL 0),.box [.ref 5,.ref 6,.v (.slice none 0 0)],.row 3 (D.ints [])]) [(1,.ptr 3 0),(2,.ptr 4 0),(3,bA false)];obtain⟨ρ,G⟩:=G.nilT 7 (.stmts []) (Z5 p [.box (pL 0),.box [.ref 5,.ref 6,.tref 7],.row 3 (D.ints []),.row 3 (D.ints [])]) [(1,.ptr 3 0),(2,.ptr 4 0),(3,bA false)];exact Z1 (.tup [.agg [.ref 5,.ref 6,.tref 7],bA false]) G [0,1,2,5,6,7] (by have e1:(okI p:Bool)=(false):=(bN2 ab);(first|rw[e1]|simp only[e1])<;>rfl) (by show _=mR [0,1,2,5,6,7] (aW0 p);unfold aW0;rw[bx7 (bN2 ab)]<;>rfl)
abbrev nvL:List Int:=[3]++([4]++([2]++([5]++[])))
abbrev viL:List Int:=[0]++([1]++([0]++([1]++([2]++([3]++[])))))
abbrev naL:List Int:=[1]++([2]++([0]++([1]++[])))
abbrev aiL:List Int:=[0]++([1]++([0]++([1]++([3]++[]))))
abbrev nbL:List Int:=[2]++([3]++([1]++([4]++[])))
def nsD(b:List UInt8)(l:List Int)(n:Nat)(k:Int):List Int:=(cx0 n).map fun(i:Nat)=>nm b (k+(i:Int)) l
theorem ap2(b:List UInt8)(l:List Int)(n:Nat)(k:Int):(nsD b l n k).length=n:=by simp[nsD]
theorem bN6(b:List UInt8)(l:List Int)(n:Nat)(k:Int):nsD b l (n+1) k=nsD b l n k++[nm b (k+(n:Int)) l]:=by
 unfold nsD;rw[List.range_succ,List.map_append];rfl
def L5(b:List UInt8)(k:Int):Int:=k+1+nm b k nvL
def kp2(b:List UInt8)(k:Int):Int:=L5 b k+1+nm b (L5 b k) naL
def vsD(b:List UInt8)(k:Int):List Int:=nsD b viL (nm b k nvL).toNat (k+1)
def asD(b:List UInt8)(k:Int):List Int:=nsD b aiL (nm b (L5 b k) naL).toNat (L5 b k+1)
def R9(b:List UInt8)(k:Int):List c5×Int:=J6 (E1 b (vsD b k).length (asD b k).length 3) (nm b (kp2 b k) nbL).toNat (kp2 b k+1)
def rwD(b:List UInt8)(k:Int):f7:=⟨vsD b k,asD b k,(R9 b k).1⟩
def fbP:f7:=⟨[0,1],[],[⟨1,1,noE,⟨2,0,[]⟩,0,[],[]⟩]⟩
def O5(b:List UInt8)(k:Int):f7:=if m6 (rwD b k)=true then rwD b k else fbP
section
variable(b:List UInt8){k:Int}
theorem ca2(hk:0<=k)(hk2:k<=1000000000):0<=nm b k nvL/\nm b k nvL<=5:=aY2 b an an hk hk2
theorem ci9(hk:0<=k)(hk2:k<=1000000000):0<=nm b k nbL/\nm b k nbL<=4:=aY2 b an an hk hk2
theorem ca6(hk:0<=k)(hk2:k<=1000000000):0<=nm b k naL/\nm b k naL<=2:=aY2 b an an hk hk2
theorem bP0(hk:0<=k)(hk2:k<=10000000):k+1<=L5 b k/\L5 b k<=k+6:=by
 have:=ca2 b hk al;unfold L5;omega
theorem bx5(hk:0<=k)(hk2:k<=10000000):k+2<=kp2 b k/\kp2 b k<=k+9:=by
 have h1:=bP0 b hk hk2
 have:=ca6 b (k:=L5 b k) al al;unfold kp2;omega
theorem cS3:cS 3=34170/\cS 2=8442:=ak
theorem cu4(nv na:Nat):Drw (E1 b nv na 3) 34170:=fun j h1 h2=>by
 have e:=cS3.1
 have h3:=ba5 b nv na 3 j h1 al
 have h4:=bl1 b nv na 3 j h1 al
 omega
theorem bz5(hk:0<=k)(hk2:k<=10000000):kp2 b k<=(R9 b k).2/\(R9 b k).2<=k+150000/\i9 (R9 b k).1<=150000:=by
 have h1:=bx5 b hk hk2
 have h2:=ci9 b (k:=kp2 b k) al al
 have h3:=a75 (f:=E1 b (vsD b k).length (asD b k).length 3) al (cu4 b _ _) (nm b (kp2 b k) nbL).toNat (kp2 b k+1) al al
 unfold R9
 omega
theorem bH9(hk:0<=k)(hk2:k<=10000000):(vsD b k).length<=5:=by
 have:=ca2 b hk al;unfold vsD;rw[ap2];omega
theorem bU6(hk:0<=k)(hk2:k<=10000000):(asD b k).length<=2:=by
 have h1:=bP0 b hk hk2
 have:=ca6 b (k:=L5 b k) al al;unfold asD;rw[ap2];omega
theorem cc0:m6 fbP=true:=by decide+kernel
theorem bM1(k:Int):m6 (O5 b k)=true:=by
 unfold O5;split
 ·assumption
 exact cc0
theorem bM0(hk:0<=k)(hk2:k<=10000000):(O5 b k).size<=160000:=by
 have h1:=bz5 b hk hk2
 have h2:=bH9 b hk hk2
 have h3:=bU6 b hk hk2
 unfold O5;split
 ·show(vsD b k).length+(asD b k).length+i9 (R9 b k).1<=160000
  omega
 decide
end
def W7(b:List UInt8)(k:Int):f7:=if pk b (R9 b k).2 4=0 then O5 b k else if okI (O5 b k)=true then ak5 (O5 b k)else O5 b k
theorem bZ9{p:f7}:(ak5 p).size<=p.size:=by
 unfold ak5
 split
 ·have h:=(aQ3 (p:=p) (by rename_i h;unfold okI at h;simp at h;exact h.1)).1
  show(aC2 p).1.length+(aC2 p).2.length+i9 p.body<=_
  unfold f7.size
  have h1:(aC2 p).1.length=p.vars.length:=h.1
  have h2:(aC2 p).2.length=p.arrays.length:=h.2
  omega
 simp[f7.size,i9]
theorem bk4(b:List UInt8){k:Int}(hk:0<=k)(hk2:k<=10000000):(W7 b k).size<=160000:=by
 have h1:=bM0 b hk hk2
 have h2:=bZ9 (p:=O5 b k)
 unfold W7
 (repeat' split)<;>omega
def bsD(c:List UInt8):List UInt8:=c.take 2000
abbrev opL:List Int:=[1]++([2]++([3]++([6]++([2]++([7]++([9]++([4]++([5]++([11]++([8]++([12]++[])))))))))))
abbrev vaL:List Int:=[0]++([1]++([2]++([3]++([255]++([128]++([7]++([4]++([100]++[]))))))))
abbrev lnL:List Int:=[6]++([8]++([4]++([10]++([1]++([12]++[])))))
def opD(b:List UInt8)(j:Int)(na:Nat):Int:=if na=0/\(nm b j opL=4\/nm b j opL=5)then 2 else nm b j opL
def ptD(b:List UInt8)(j:Int)(nv na:Nat)(at0 n:Int)(kd:UInt8):Int:=
 if kd=114 then pk b j 3 else if kd=99 then nm b j vaL else if kd=118 then pk b j nv else if kd=97 then pk b j na else if kd=111 then 4+pk b j 7 else at0+1+pk b j (n-at0-1)
def psD(b:List UInt8)(j:Int)(nv na:Nat)(at0 n:Int)(ks:List UInt8)(k:Nat):List Int:=(cx0 4).map fun i=>if i<k then ptD b (j+i) nv na at0 n (ks.getD i 0)else 0
theorem bv7(b:List UInt8)(j:Int)(nv na:Nat)(at0 n:Int)(ks:List UInt8)(k:Nat):(psD b j nv na at0 n ks k).length=4:=by simp[psD]
theorem bL4(b:List UInt8)(j:Int)(nv na:Nat)(at0 n:Int)(ks:List UInt8){k:Nat}(hk:k<4):psD b j nv na at0 n ks (k+1)=(psD b j nv na at0 n ks k).set k (ptD b (j+k) nv na at0 n (ks.getD k 0)):=by
 apply List.ext_getElem (by simp[bv7])
 intro i h1 h2
 rw[List.getElem_set]
 simp only[psD,List.getElem_map,List.getElem_range]
 by_cases e:k=i
 ·subst e;simp
 rw[if_neg e]
 have:(i<k+1)↔(i<k):=al
 simp only[this]
def rnD(b:List UInt8)(j:Int)(nv na:Nat)(at0 n:Int):d8×Int:=
 (⟨opD b j na,(psD b (j+1) nv na at0 n (m7 (opD b j na)) (m7 (opD b j na)).length).getD 0 0,(psD b (j+1) nv na at0 n (m7 (opD b j na)) (m7 (opD b j na)).length).getD 1 0,
  (psD b (j+1) nv na at0 n (m7 (opD b j na)) (m7 (opD b j na)).length).getD 2 0,(psD b (j+1) nv na at0 n (m7 (opD b j na)) (m7 (opD b j na)).length).getD 3 0⟩,j+1+(m7 (opD b j na)).length)
theorem cq4(b:List UInt8)(j:Int)(nv na:Nat)(at0 n:Int):j+1<=(rnD b j nv na at0 n).2/\(rnD b j nv na at0 n).2<=j+5:=by
 have:=au8 (opD b j na)
 unfold rnD
 simp only
 omega
def rsD(b:List UInt8)(j:Int)(nv na:Nat)(n:Int):Nat->List d8×Int
 |0=>([],j)
 |k+1=>((rsD b j nv na n k).1++[(rnD b (rsD b j nv na n k).2 nv na k n).1],(rnD b (rsD b j nv na n k).2 nv na k n).2)
theorem b83(b:List UInt8)(j:Int)(nv na:Nat)(n:Int):∀k:Nat,(rsD b j nv na n k).1.length=k/\j<=(rsD b j nv na n k).2/\(rsD b j nv na n k).2<=j+5*k
 |0=>by simp[rsD]
 | k + 1 => by
  obtain⟨h1,h2,h3⟩:=b83 b j nv na n k
  have h4:=cq4 b (rsD b j nv na n k).2 nv na k n
  have e2:(rsD b j nv na n (k+1)).2=(rnD b (rsD b j nv na n k).2 nv na k n).2:=rfl
  have e1:(rsD b j nv na n (k+1)).1.length=k+1:=by
   show((rsD b j nv na n k).1++[(rnD b (rsD b j nv na n k).2 nv na k n).1]).length=k+1
   rw[cv9,h1];rfl
  rw[e1,e2]
  generalize (rnD b (rsD b j nv na n k).2 nv na k n).2=x at h4 ⊢
  generalize (rsD b j nv na n k).2=y at*
  refine⟨rfl,?_,?_⟩<;>omega
def clD(b:List UInt8)(j:Int)(nv na:Nat):List d8×Int:=
 (fun(n:Int)=>
  (fun(r:List d8×Int)=>
   if n>3 then
    (if pk b r.2 4=0 then(((r.1++[(⟨13,0,0,0,0⟩:d8)]).set 0 ⟨1,5,1+pk b (r.2+1) 3,0,0⟩).set (n-2).toNat ⟨10,5,1,0,0⟩,r.2+2)else(r.1++[⟨13,0,0,0,0⟩],r.2+1))
   else(r.1++[⟨13,0,0,0,0⟩],r.2)) (rsD b (j+1) nv na n (n-1).toNat)) (nm b j lnL)
theorem ca7(b:List UInt8){j:Int}(hj:0<=j)(hj2:j<=1000000000):1<=nm b j lnL/\nm b j lnL<=12:=by
 have h:=aB7 b hj hj2 (l:=lnL) (List.cons_ne_nil _ _)
 generalize nm b j lnL=x at h ⊢
 simp only[lnL,List.cons_append,List.nil_append,cz2,List.not_mem_nil,or_false]at h
 omega
theorem cu5(b:List UInt8){j:Int}(nv na:Nat)(hj:0<=j)(hj2:j<=1000000000):(clD b j nv na).1.length=(nm b j lnL).toNat/\j+1<=(clD b j nv na).2/\(clD b j nv na).2<=j+70:=by
 have hn:=ca7 b hj hj2
 obtain⟨h1,h2,h3⟩:=b83 b (j+1) nv na (nm b j lnL) (nm b j lnL-1).toNat
 unfold clD
 simp only
 split
 ·split
  ·simp only[cy3,cv9,cw2,cw6,h1];omega
  simp only[cv9,cw2,cw6,h1];omega
 simp only[cv9,cw2,cw6,h1];omega
abbrev cj4:List Int:=[0]++([14]++([1]++([12]++[])))
abbrev cj3:List Int:=[-1]++([14]++([0]++([400]++[])))
abbrev cj2:List Int:=[1]++([-1]++[])
def b86(l:List d8)(i:Nat)(n:Int):List d8:=l.set i ⟨n,(l.getD i cv2).a,(l.getD i cv2).b,(l.getD i cv2).c,(l.getD i cv2).d⟩
def bL3(l:List d8)(i:Nat)(n:Int):List d8:=l.set i ⟨(l.getD i cv2).op,n,(l.getD i cv2).b,(l.getD i cv2).c,(l.getD i cv2).d⟩
def b87(l:List d8)(i:Nat)(n:Int):List d8:=l.set i ⟨(l.getD i cv2).op,(l.getD i cv2).a,(l.getD i cv2).b,(l.getD i cv2).c,n⟩
def muD(b:List UInt8)(j:Int)(c:c8):c8×Int:=
 if c.list.length=0 then(c,j)
 else if pk b j 60=0 then(⟨c.vars,c.arrays,b86 c.list 0 (nm b (j+1) cj4)⟩,j+2)
 else if pk b j 60=1 then(⟨c.vars,c.arrays,bL3 c.list (pk b (j+1) c.list.length).toNat (nm b (j+2) cj3)⟩,j+3)
 else if pk b j 60=2 then(⟨c.vars,c.arrays,c.list.set (c.list.length-1) ⟨12,0,0,0,0⟩⟩,j+1)
 else if pk b j 60=3 then(⟨c.vars,c.arrays,c.list.set (c.list.length-1) ⟨8,0,0,0,0⟩⟩,j+1)
 else if pk b j 60=4 then(⟨c.vars,c.arrays,b87 c.list (pk b (j+1) c.list.length).toNat (nm b (j+2) cj2)⟩,j+3)
 else if pk b j 60=5 then(⟨[],c.arrays,c.list⟩,j+1)
 else(c,j+1)
theorem ct0(b:List UInt8)(j:Int)(c:c8):(muD b j c).1.list.length=c.list.length/\(muD b j c).1.vars.length<=c.vars.length/\(muD b j c).1.arrays.length=c.arrays.length/\j<=(muD b j c).2/\(muD b j c).2<=j+3:=by
 have key:∀(x:c8) (q:Int),x.list.length=c.list.length->x.vars.length<=c.vars.length->x.arrays.length=c.arrays.length->j<=q->q<=j+3->((x,q).1.list.length=c.list.length/\(x,q).1.vars.length<=c.vars.length/\(x,q).1.arrays.length=c.arrays.length/\j<=(x,q).2/\(x,q).2<=j+3):=fun x q h1 h2 h3 h4 h5=>⟨h1,h2,h3,h4,h5⟩
 unfold muD
 repeat' split
 all_goals (refine key _ _ ?_ ?_ ?_ al al<;>simp[b86,bL3,b87])
theorem ch6{b:List UInt8}{j n:Int}(h:n<1):pk b j n=0:=by unfold pk;rw[if_pos (.inl h)]
theorem cs2{b:List UInt8}{j n:Int}(h:(b.length:Int)=0):pk b j n=0:=by unfold pk;rw[if_pos (.inr al)]
theorem cs1{b:List UInt8}{j n:Int}(h:¬n<1)(h1:¬(b.length:Int)=0)(h2:j+1-1<b.length):pk b j n=((b.getD (j+1-1).toNat 0).toNat:Int).tmod n:=by
 unfold pk;rw[if_neg al,if_pos al,Int.add_sub_cancel]
theorem cs0{b:List UInt8}{j n:Int}(h:¬n<1)(h1:¬(b.length:Int)=0)(h2:¬j+1-1<b.length):pk b j n=(bk2 (pkX b (j+1-1)) ((pkX b (j+1-1)).tdiv 64)).tmod n:=by
 unfold pk;rw[if_neg al,if_neg al,Int.add_sub_cancel]
theorem bD3{x:Int}{n:Nat}(hx:0<=x)(hn:¬(n:Int)=0):0<=x.tmod n/\x.tmod n<n/\(x.tmod n).toNat<n:=by
 have:=bk6 (x:=x) (n:=n) hx al;omega
theorem D7(b:List UInt8)(j n:Int)(r0:0<=j)(r1:j<=1000000000):j8.ok Tryz.prog ⟨69,[.ptr 0 0,iA n],[.box [.ref 1,iA j],dY b],[.box [.ref 1,iA (j+1)],dY b],iA (pk b j n)⟩:=by
  refine H9 99 Tryz.func69 [.box [.ref 1,iA j],dY b] [(0,.ptr 0 0),(1,iA n)] fun G=>?_;have hu1:=ba0 (b.getD ((j+1-1).tmod b.length).toNat 0);have hu2:=ba0 (b.getD (((j+1-1)*7+3).tmod b.length).toNat 0);refine wp_seq (l8 G f8 [(4,iA 0)] fun G=>b6 (wp_seq (rA1 G f8 [0,1] [.box [.ref 1,iA (j+1)],dY b] [(0,.ptr 0 0),(1,iA n),(4,iA 0)] [wO (j+1)] (o1 al) fun G=>b6 (wp_seq (wp_seq ?_)))));cases h0:(decide (n<1))
  ·
   have q0:=dFf h0;refine l8 G (K6 (fc h0 fz) (us [(3,8,0),(1009,1009,0)])) [(24,bA ((b.length:Int)==0))] fun G=>b6 (S4 G (fun h1 q1=>?_) fun h1 q1=>?_)
   ·
    refine wp_skip (b6 (wp_seq (P4 G f8 [(5,iA (j+1-1))] [wO (j+1-1)] (o1 al) fun G=>b6 (wp_seq (wp_seq (l8 G f8 [(36,bA (decide (j+1-1<(b.length:Int))))] fun G=>b6 (rcD G (fun h2 q2=>?_) fun h2 q2=>?_)))))))
    ·
     refine wp_skip (b6 (wp_seq (ak2 G f8 [0,1,3,7,0,0,32,96,224,480,1008,2047,4095,8191,16383,0,32768,98304,229376,0,524288,1572864,0,4194304,12582912,29360128,62914560,133693440,268402688,536838144,1073709056,2147450880,4294967295,0,8589934592,34359738367,0,0,137438953472,412316860416,962072674304,2061584302080,4329327034368,8727373545472,17592186044415,35184372088831] [(6,iA (((b.getD ((j+1-1).tmod (b.length:Int)).toNat 0).toNat:Int)*131+((b.getD (((j+1-1)*7+3).tmod (b.length:Int)).toNat 0).toNat:Int)*1117+(j+1-1)*29+(j+1-1).tdiv (b.length:Int)*53))] [(b.length:Int)≠0,(0:Int)<=(j+1-1).tmod (b.length:Int),(j+1-1).tmod (b.length:Int)<b.length,((j+1-1).tmod (b.length:Int)).toNat<b.length,IntKind.i64.wrap ((b.getD ((j+1-1).tmod (b.length:Int)).toNat (0:UInt8)).toNat:Int)=((b.getD ((j+1-1).tmod (b.length:Int)).toNat (0:UInt8)).toNat:Int),wO (((b.getD ((j+1-1).tmod (b.length:Int)).toNat (0:UInt8)).toNat:Int)*131),wO ((j+1-1)*7),wO ((j+1-1)*7+3),(b.length:Int)≠0,(0:Int)<=((j+1-1)*7+3).tmod (b.length:Int),((j+1-1)*7+3).tmod (b.length:Int)<b.length,(((j+1-1)*7+3).tmod (b.length:Int)).toNat<b.length,IntKind.i64.wrap ((b.getD (((j+1-1)*7+3).tmod (b.length:Int)).toNat (0:UInt8)).toNat:Int)=((b.getD (((j+1-1)*7+3).tmod (b.length:Int)).toNat (0:UInt8)).toNat:Int),wO (((b.getD (((j+1-1)*7+3).tmod (b.length:Int)).toNat (0:UInt8)).toNat:Int)*1117),wO (((b.getD ((j+1-1).tmod (b.length:Int)).toNat (0:UInt8)).toNat:Int)*131+((b.getD (((j+1-1)*7+3).tmod (b.length:Int)).toNat (0:UInt8)).toNat:Int)*1117),wO ((j+1-1)*29),wO (((b.getD ((j+1-1).tmod (b.length:Int)).toNat (0:UInt8)).toNat:Int)*131+((b.getD (((j+1-1)*7+3).tmod (b.length:Int)).toNat (0:UInt8)).toNat:Int)*1117+(j+1-1)*29),(b.length:Int)≠0,wO ((j+1-1).tdiv (b.length:Int)),wO ((j+1-1).tdiv (b.length:Int)*53),wO (((b.getD ((j+1-1).tmod (b.length:Int)).toNat (0:UInt8)).toNat:Int)*131+((b.getD (((j+1-1)*7+3).tmod (b.length:Int)).toNat (0:UInt8)).toNat:Int)*1117+(j+1-1)*29+(j+1-1).tdiv (b.length:Int)*53)] ⟨ai,((bD3 al al).1),((bD3 al al).2.1),((bD3 al al).2.2),(w64 al al),(oW al),(oW al),(oW al),ai,((bD3 al al).1),((bD3 al al).2.1),((bD3 al al).2.2),(w64 al al),(oW al),(oW al),(oW al),(oW al),ai,(by have:=bc7 (b:=b) (k:=j+1-1) al al al;exact w64 (by unfold pkX at this;omega) (by unfold pkX at this;omega)),(by have:=bc7 (b:=b) (k:=j+1-1) al al al;exact w64 (by unfold pkX at this;omega) (by unfold pkX at this;omega)),(by have:=bc7 (b:=b) (k:=j+1-1) al al al;exact w64 (by unfold pkX at this;omega) (by unfold pkX at this;omega)),cx2⟩ fun G=>?_)))
     refine b6 (wp_seq (P4 G f8 [(6,iA (bk2 (((b.getD ((j+1-1).tmod (b.length:Int)).toNat 0).toNat:Int)*131+((b.getD (((j+1-1)*7+3).tmod (b.length:Int)).toNat 0).toNat:Int)*1117+(j+1-1)*29+(j+1-1).tdiv (b.length:Int)*53) ((((b.getD ((j+1-1).tmod (b.length:Int)).toNat 0).toNat:Int)*131+((b.getD (((j+1-1)*7+3).tmod (b.length:Int)).toNat 0).toNat:Int)*1117+(j+1-1)*29+(j+1-1).tdiv (b.length:Int)*53).tdiv 64)))] [(64:Int)≠0,wO ((((b.getD ((j+1-1).tmod (b.length:Int)).toNat (0:UInt8)).toNat:Int)*131+((b.getD (((j+1-1)*7+3).tmod (b.length:Int)).toNat (0:UInt8)).toNat:Int)*1117+(j+1-1)*29+(j+1-1).tdiv (b.length:Int)*53).tdiv (64:Int))] ⟨al,(by have:=b45 (b:=b) (k:=j+1-1) al al al;exact w64 (by unfold pkX at this;omega) (by unfold pkX at this;omega)),cx2⟩ fun G=>b6 (wp_seq (P4 G f8 [(4,iA ((bk2 (((b.getD ((j+1-1).tmod (b.length:Int)).toNat 0).toNat:Int)*131+((b.getD (((j+1-1)*7+3).tmod (b.length:Int)).toNat 0).toNat:Int)*1117+(j+1-1)*29+(j+1-1).tdiv (b.length:Int)*53) ((((b.getD ((j+1-1).tmod (b.length:Int)).toNat 0).toNat:Int)*131+((b.getD (((j+1-1)*7+3).tmod (b.length:Int)).toNat 0).toNat:Int)*1117+(j+1-1)*29+(j+1-1).tdiv (b.length:Int)*53).tdiv 64)).tmod n))] [n≠0] ⟨al,cx2⟩ fun G=>b6 (wp_ret ?_)))));exact rxI ((bk2 (((b.getD ((j+1-1).tmod (b.length:Int)).toNat 0).toNat:Int)*131+((b.getD (((j+1-1)*7+3).tmod (b.length:Int)).toNat 0).toNat:Int)*1117+(j+1-1)*29+(j+1-1).tdiv (b.length:Int)*53) ((((b.getD ((j+1-1).tmod (b.length:Int)).toNat 0).toNat:Int)*131+((b.getD (((j+1-1)*7+3).tmod (b.length:Int)).toNat 0).toNat:Int)*1117+(j+1-1)*29+(j+1-1).tdiv (b.length:Int)*53).tdiv 64)).tmod n) G [0,1] (cs0 al al al)
    refine wp_seq (P4 G f8 [(4,iA (((b.getD (j+1-1).toNat 0).toNat:Int).tmod n))] (iX (j+1-1) ((j+1-1).toNat) b.length ((IntKind.i64.wrap ((b.getD (j+1-1).toNat (0:UInt8)).toNat:Int)=((b.getD (j+1-1).toNat (0:UInt8)).toNat:Int))::((n≠0)::[]))) (iK al ⟨(by have:=ba0 (b.getD (j+1-1).toNat 0);exact w64 al al),⟨al,cx2⟩⟩) fun G=>b6 (wp_ret (l7 ?_)));exact rxI (((b.getD (j+1-1).toNat 0).toNat:Int).tmod n) G [0,1] (cs1 al al al)
   refine wp_seq (l8 G f8 [] fun G=>b6 (wp_ret (l7 ?_)));exact rxI 0 G [0,1] (cs2 al)
  have q0:=dTt h0;refine l8 G (K6 (fc h0 fz) (us [(3,8,0),(1009,1009,0)])) [(24,bA true)] fun G=>b6 (rT G true aj (wp_seq (l8 G f8 [] fun G=>b6 (wp_ret (l7 ?_)))));exact rxI 0 G [0,1] (ch6 al)
theorem T6(b:List UInt8)(j:Int)(l:List Int)(hl:l≠[])(r0:0<=j)(r1:j<=1000000000):j8.ok Tryz.prog ⟨109,[.ptr 0 0,.ref 2],[.box [.ref 1,iA j],dY b,dI l],[.box [.ref 1,iA (j+1)],dY b,dI l],iA (nm b j l)⟩:=by
 refine H9 12 Tryz.func109 [.box [.ref 1,iA j],dY b,dI l] [(0,.ptr 0 0),(1,.ref 2)] fun G=>?_;refine wp_seq (l8 G f8 [(4,iA 0)] fun G=>b6 (wp_seq (rA1 G (w6 4 [0,1] (D7 b j ((l.length:Int)) ai ai)) [0,1,2] [.box [.ref 1,iA (j+1)],dY b,dI l] [(4,iA (l.getD (pk b j (l.length:Int)).toNat 0))] [(0:Int)<=pk b j (l.length:Int),pk b j (l.length:Int)<l.length,(pk b j (l.length:Int)).toNat<l.length] ⟨((bw6 b r0 r1 hl).1),((bw6 b r0 r1 hl).2.1),((bw6 b r0 r1 hl).2.2),cx2⟩ fun G=>b6 (wp_ret ?_))));exact O8 G [0,1,2]
theorem bs0(c:List UInt8)(hc:c.length<=2000):j8.ok Tryz.prog ⟨26,[.ref 0],[dY c],[dY c,.box [.ref 0,iA 0]],.ptr 1 0⟩:=by
 refine H9 11 Tryz.func26 [dY c] [(0,.ref 0)] fun G=>?_;refine wp_seq (l8 G f8 [(2,.v (.pointer none))] fun G=>b6 (wp_seq (wp_seq (G3 G f8 [(0,.ref 0),(2,.v (.pointer none)),(5,bA (decide ((c.length:Int)>2000)))] fun G=>b6 ?_))));cases h0:(decide ((c.length:Int)>2000))
 ·have q0:=dFf h0;refine rF G _ h0 (wp_skip (b6 (wp_seq (j9 G f8 [0,17] [dY c,.box [.ref 0,iA 0]] [(2,.ptr 1 0)] fun G=>b6 (wp_ret ?_)))));exact O8 G [0,1]
 have q0:=dTt h0;exact False.elim al
theorem br9(c:List UInt8)(hc:2000<c.length):j8.ok Tryz.prog ⟨26,[.ref 0],[dY c],[dY c,.box [.ref 2,iA 0],dY ((c.take 2000).drop 0)],.ptr 1 0⟩:=by
 refine H9 11 Tryz.func26 [dY c] [(0,.ref 0)] fun G=>?_;refine wp_seq (l8 G f8 [(2,.v (.pointer none))] fun G=>b6 (wp_seq (wp_seq (G3 G f8 [(0,.ref 0),(2,.v (.pointer none)),(5,bA (decide ((c.length:Int)>2000)))] fun G=>b6 ?_))));cases h0:(decide ((c.length:Int)>2000))
 ·have q0:=dFf h0;exact False.elim al
 have q0:=dTt h0;refine rT G _ h0 (rA1 G f8 [0,9] [dY c,dY (List.drop 0 (cw1 (Int.toNat 2000) c))] [(0,.ref 1),(2,.v (.pointer none))] [(0:Int)<=2000,(2000:Int)<=c.length] ⟨al,al,cx2⟩ fun G=>b6 (wp_seq (j9 G f8 [0,1,18] [dY c,dY (List.drop 0 (cw1 (Int.toNat 2000) c)),.box [.ref 1,iA 0]] [(2,.ptr 2 0)] fun G=>b6 (wp_ret ?_))));exact O8 G [0,2,1]
abbrev dwS(b:List UInt8)(j:Int)(vs ars:List Int)(bd:List c5):List It:=[.box [.ref 1,iA j],dY b,dI vs,dI ars,dT bd]
abbrev exO(e:c6):List It:=[.tree (.exprs e.kids)]
abbrev exA(e:c6)(r:Nat):AV:=.agg [iA e.kind,iA e.value,.tref r]
theorem co6{b:List UInt8}{nv j:Int}(h:pk b j 3=0):s4 b nv j=⟨1,nm b (j+1) atL,[]⟩:=if_pos h
theorem co5{b:List UInt8}{nv j:Int}(h:¬pk b j 3=0):s4 b nv j=⟨2,pk b (j+1) nv,[]⟩:=if_neg h
theorem aD3(b:List UInt8)(j:Int)(vs ars:List Int)(bd:List c5)(r0:0<=j)(r1:j<=900000000):j8.ok Tryz.prog ⟨188,[.ptr 0 0,pA 2],dwS b j vs ars bd,dwS b (j+2) vs ars bd++exO (s4 b vs.length j),exA (s4 b vs.length j) 5⟩:=by
 refine H9 18 Tryz.func188 [.box [.ref 1,iA j],dY b,dI vs,dI ars,dT bd] [(0,.ptr 0 0),(1,pA 2)] fun G=>?_;refine wp_seq (j9 G f8 [0,1,2,3,4,5,13] [.box [.ref 1,iA j],dY b,dI vs,dI ars,dT bd,.box (pL 2),.box [iA 0,iA 0,.v (.slice none 0 0)]] [(0,.ptr 0 0),(3,.ptr 5 0),(4,.ptr 6 0)] fun G=>b6 (wp_seq (wp_seq (j9 G (w6 1 [0,1] (D7 b j 3 ai al)) (rg 7) [.box [.ref 1,iA (j+1)],dY b,dI vs,dI ars,dT bd,.box (pL 2),.box [iA 0,iA 0,.v (.slice none 0 0)]] [(0,.ptr 0 0),(3,.ptr 5 0),(4,.ptr 6 0),(7,bA (pk b j 3==0))] fun G=>b6 (S4 G (fun h0 q0=>?_) fun h0 q0=>?_)))))
 ·refine wp_skip (b6 (wp_seq (j9 G (w6 4 [0,1] (D7 b (j+1) ((vs.length:Int)) al al)) [0,1,2,3,4,6] [.box [.ref 1,iA (j+1+1)],dY b,dI vs,dI ars,dT bd,.box [iA 2,iA (pk b (j+1) (vs.length:Int)),.v (.slice none 0 0)]] [(4,.ptr 5 0)] fun G=>b6 (wp_ret ?_))));obtain⟨ρ,G⟩:=G.nilT 6 (.exprs []) [.box [.ref 1,iA (j+1+1)],dY b,dI vs,dI ars,dT bd,.box [iA 2,iA (pk b (j+1) (vs.length:Int)),.tref 6]] [(4,.ptr 5 0)];exact Z1 (.agg [iA 2,iA (pk b (j+1) (vs.length:Int)),.tref 6]) G [0,1,2,3,4,6] (by show _=AV.ren (nth [0,1,2,3,4,6]) (.agg [iA (s4 b (vs.length:Int) j).kind,iA (s4 b (vs.length:Int) j).value,.tref 5]);rw[co5 al]<;>rfl) (by show _=mR [0,1,2,3,4,6] [.box [.ref 1,iA (j+2)],dY b,dI vs,dI ars,dT bd,.tree (D.exprs (s4 b (vs.length:Int) j).kids)];have e1:(j+2:Int)=(j+1+1):=al;rw[e1,co5 al]<;>rfl)
 refine wp_seq (j9 G (w6 2 [0,1,15] (j8.lend (T6 b (j+1) atL (by simp[h0]) al al) [.no,.no,.row 3])) (rg 7) [.box [.ref 1,iA (j+1+1)],dY b,dI vs,dI ars,dT bd,.box (pL 2),.box [iA 1,iA (nm b (j+1) atL),.v (.slice none 0 0)]] [(0,.ptr 0 0),(3,.ptr 5 0),(4,.ptr 6 0)] fun G=>b6 (wp_ret (l7 ?_)));obtain⟨ρ,G⟩:=G.nilT 7 (.exprs []) [.box [.ref 1,iA (j+1+1)],dY b,dI vs,dI ars,dT bd,.box (pL 2),.box [iA 1,iA (nm b (j+1) atL),.tref 7]] [(0,.ptr 0 0),(3,.ptr 5 0),(4,.ptr 6 0)];exact Z1 (.agg [iA 1,iA (nm b (j+1) atL),.tref 7]) G [0,1,2,3,4,7] (by show _=AV.ren (nth [0,1,2,3,4,7]) (.agg [iA (s4 b (vs.length:Int) j).kind,iA (s4 b (vs.length:Int) j).value,.tref 5]);rw[co6 al]<;>rfl) (by show _=mR [0,1,2,3,4,7] [.box [.ref 1,iA (j+2)],dY b,dI vs,dI ars,dT bd,.tree (D.exprs (s4 b (vs.length:Int) j).kids)];have e1:(j+2:Int)=(j+1+1):=al;rw[e1,co6 al]<;>rfl)
theorem br7(vs ars:List Int)(bd:List c5)(e:c6):j8.ok Tryz.prog (Y3 193 [pA 0,eA e 3] ([dI vs,dI ars,dT bd]++eS e) (bA (t4 vs.length ars.length e))):=L7 ⟨vs,ars,bd⟩ e
abbrev drC(b:List UInt8)(vs ars:List Int)(bd:List c5)(d:Nat)(j n:Int):j8:=⟨197,[.ptr 0 0,pA 2,iA n],dwS b j vs ars bd,dwS b (P7 b vs.length ars.length d j).2 vs ars bd++exO (P7 b vs.length ars.length d j).1,exA (P7 b vs.length ars.length d j).1 5⟩
section
variable{b:List UInt8}{nv na:Int}{d:Nat}{j:Int}
theorem cm7(h:d<2):P7 b nv na d j=(s4 b nv j,j+2):=by
 match d,h with
 |0,_=>rfl
 |1,_=>simp[P7]
theorem cc1(h:0<d)(h1:pk b j 4=0):P7 b nv na (d+1) j=(s4 b nv (j+1),j+3):=by rw[P7,if_neg al,if_pos h1]
theorem b07(h:0<d)(h1:¬pk b j 4=0)(h2:nm b (j+1) R6=3)(h3:na=0):P7 b nv na (d+1) j=(s4 b nv (j+2),j+4):=by rw[P7,if_neg al,if_neg h1,if_pos h2,if_pos h3]
theorem b06(h:0<d)(h1:¬pk b j 4=0)(h2:nm b (j+1) R6=3)(h3:¬na=0):P7 b nv na (d+1) j=(⟨3,pk b (j+2) na,[s4 b nv (j+3)]⟩,j+5):=by rw[P7,if_neg al,if_neg h1,if_pos h2,if_neg h3]
abbrev drK(b:List UInt8)(nv na:Int)(d:Nat)(j:Int)(k:Nat):List c6×Int:=J6 (P7 b nv na d) k (j+2)
theorem cm6(h:0<d)(h1:¬pk b j 4=0)(h2:¬nm b (j+1) R6=3){m:Int}(h3:0<=m)(h4:¬m>0):P7 b nv na (d+1) j=(⟨nm b (j+1) R6,0,(drK b nv na d j (v5 (nm b (j+1) R6)-m).toNat).1⟩,(drK b nv na d j (v5 (nm b (j+1) R6)-m).toNat).2):=by
 have e:m=0:=al
 rw[e,Int.sub_zero,P7,if_neg al,if_neg h1,if_neg h2]
theorem by7{x m:Int}(h3:m>0)(h4:m<=x):drK b nv na d j (x-(m-1)).toNat=((drK b nv na d j (x-m).toNat).1++[(P7 b nv na d (drK b nv na d j (x-m).toNat).2).1],(P7 b nv na d (drK b nv na d j (x-m).toNat).2).2):=by
 rw[show(x-(m-1)).toNat=(x-m).toNat+1 by omega];rfl
theorem co7(r0:0<=j)(r1:j<=900000000):0<=v5 (nm b (j+1) R6)/\v5 (nm b (j+1) R6)<=3:=by
 have h:=aB7 b (k:=j+1) (l:=R6) al al an
 simp only[cx6,cz2,List.not_mem_nil,or_false]at h
 rcases h with h|h|h|h|h|h|h|h|h<;>rw[h]<;>decide
theorem cm9(r0:0<=j){k:Nat}(hk:k<=3):j+2<=(drK b nv na d j k).2/\(drK b nv na d j k).2<=j+2+3*cE d:=by
 have hc:=aT2 d
 have h:=bR8 (f:=P7 b nv na d) (c:=cE d) (m:=3) al k (j+2) hk fun i _ _=>bg5 b nv na d i
 have h4:(k:Int)*cE d<=3*cE d:=cA3 al al
 unfold drK;omega
theorem cm8{x m:Int}(r0:0<=j)(h3:m>0)(h4:m<=x)(h5:x<=3)(r1:j+cE (d+1)<=800000000):(drK b nv na d j (x-m).toNat).2+cE d<=800000000:=by
 have hc:=aT2 d
 have hce:cE (d+1)=5+3*cE d:=rfl
 have hm:(x-m).toNat<=2:=al
 have h:=bR8 (f:=P7 b nv na d) (c:=cE d) (m:=2) al (x-m).toNat (j+2) hm fun i _ _=>bg5 b nv na d i
 have h4:((x-m).toNat:Int)*cE d<=2*cE d:=cA3 al al
 unfold drK;omega
end
theorem bv1(b:List UInt8)(vs ars:List Int)(bd:List c5)(d:Nat)(hd:d<2)(j n:Int)(hn:n=d)(r0:0<=j)(r1:j<=900000000):j8.ok Tryz.prog (drC b vs ars bd d j n):=by
 refine H9 62 Tryz.func197 [.box [.ref 1,iA j],dY b,dI vs,dI ars,dT bd] [(0,.ptr 0 0),(1,pA 2),(2,iA n)] fun G=>?_;refine wp_seq (j9 G f8 [0,1,2,3,4,5,13] [.box [.ref 1,iA j],dY b,dI vs,dI ars,dT bd,.box (pL 2),.box [iA 0,iA 0,.v (.slice none 0 0)]] [(0,.ptr 0 0),(2,iA n),(4,.ptr 5 0),(6,.ptr 6 0)] fun G=>b6 (wp_seq (wp_seq ?_)));cases h0:(decide (n<2))
 ·have q0:=dFf h0;exact False.elim al
 have q0:=dTt h0;refine l8 G (K6 (fc h0 fz) [(3,0),(4,0),(5,0),(1006,0)]) [(16,bA true)] fun G=>b6 (rT G true aj (wp_seq (j9 G (w6 2 (rg 5) (aD3 b j vs ars bd ai ai)) [0,1,2,3,4,5,6,23] [.box [.ref 1,iA (j+2)],dY b,dI vs,dI ars,dT bd,.box (pL 2),.box [iA (s4 b (vs.length:Int) j).kind,iA (s4 b (vs.length:Int) j).value,.tref 7],.tree (D.exprs (s4 b (vs.length:Int) j).kids)] [(0,.ptr 0 0),(2,iA n),(4,.ptr 5 0),(6,.ptr 6 0)] fun G=>b6 (wp_ret (l7 ?_)))));exact Z1 (.agg [iA (s4 b (vs.length:Int) j).kind,iA (s4 b (vs.length:Int) j).value,.tref 7]) G [0,1,2,3,4,7] (by show _=AV.ren (nth [0,1,2,3,4,7]) (.agg [iA (P7 b (vs.length:Int) (ars.length:Int) d j).fst.kind,iA (P7 b (vs.length:Int) (ars.length:Int) d j).fst.value,.tref 5]);rw[cm7 hd]<;>rfl) (by show _=mR [0,1,2,3,4,7] [.box [.ref 1,iA (P7 b (vs.length:Int) (ars.length:Int) d j).snd],dY b,dI vs,dI ars,dT bd,.tree (D.exprs (P7 b (vs.length:Int) (ars.length:Int) d j).fst.kids)];rw[cm7 hd]<;>rfl)
abbrev aL2(b:List UInt8)(vs:List Int)(ars:List Int)(d:Nat)(j:Int)(k:Int):=drK b (vs.length:Int) (ars.length:Int) d j (v5 (nm b (j+1) R6)-k).toNat
abbrev aE3(b:List UInt8)(vs:List Int)(ars:List Int)(d:Nat)(j:Int):AV:=(.agg [iA (P7 b (vs.length:Int) (ars.length:Int) (d+1) j).fst.kind,iA (P7 b (vs.length:Int) (ars.length:Int) (d+1) j).fst.value,.tref 5])
abbrev aE2(b:List UInt8)(vs:List Int)(ars:List Int)(bd:List c5)(d:Nat)(j:Int):List It:=[.box [.ref 1,iA (P7 b (vs.length:Int) (ars.length:Int) (d+1) j).snd],dY b,dI vs,dI ars,dT bd,.tree (D.exprs (P7 b (vs.length:Int) (ars.length:Int) (d+1) j).fst.kids)]
abbrev aW3:It:=.box [iA 0,iA 0,.v (.slice none 0 0)]
abbrev aj6(n:Int)(r0:List (Nat×AV)):List (Nat×AV):=(0,.ptr 0 0)::(2,iA n)::(4,.ptr 5 0)::(6,.ptr 6 0)::r0
theorem bX3(b:List UInt8)(vs ars:List Int)(bd:List c5)(d:Nat)(hd:0<d)(hd2:d<=100)(ih:∀(j n:Int),n=d->0<=j->j+cE d<=800000000->j8.ok Tryz.prog (drC b vs ars bd d j n))(j n:Int)(hn:n=((d+1:Nat):Int))(r0:0<=j)(r1:j+cE (d+1)<=800000000):j8.ok Tryz.prog (drC b vs ars bd (d+1) j n):=by
  refine H9 62 Tryz.func197 [.box [.ref 1,iA j],dY b,dI vs,dI ars,dT bd] [(0,.ptr 0 0),(1,pA 2),(2,iA n)] fun G=>?_;have hc:=aT2 d;have hce:cE (d+1)=5+3*cE d:=rfl;have har:=co7 (b:=b) (j:=j) r0 al;refine wp_seq (j9 G f8 [0,1,2,3,4,5,13] [.box [.ref 1,iA j],dY b,dI vs,dI ars,dT bd,.box (pL 2),aW3] (aj6 n []) fun G=>b6 (wp_seq (wp_seq ?_)));cases h0:(decide (n<2))
  ·
   have q0:=dFf h0;refine j9 G (I2 (v9 4 [0,1] (D7 b j 4 ai al) I1) (fc h0 fz) [(3,0),(4,0),(5,0),(1006,0)]) (rg 7) [.box [.ref 1,iA (j+1)],dY b,dI vs,dI ars,dT bd,.box (pL 2),aW3] (aj6 n [(16,bA (pk b j 4==0))]) fun G=>b6 (S4 G (fun h1 q1=>?_) fun h1 q1=>?_)
   ·
    refine wp_skip (b6 (wp_seq (j9 G (w6 2 [0,1,15] (j8.lend (T6 b (j+1) R6 (by simp[h0,h1]) al al) [.no,.no,.row 3])) (rg 7) [.box [.ref 1,iA (j+1+1)],dY b,dI vs,dI ars,dT bd,.box (pL 2),aW3] (aj6 n [(7,iA (nm b (j+1) R6))]) fun G=>b6 (wp_seq (wp_seq (l8 G f8 [(24,bA (nm b (j+1) R6==3))] fun G=>b6 (S4 G (fun h2 q2=>?_) fun h2 q2=>?_)))))))
    ·
     refine wp_skip (b6 (wp_seq (j9 G f8 [0,1,2,3,4,5,6,23] [.box [.ref 1,iA (j+1+1)],dY b,dI vs,dI ars,dT bd,.box (pL 2),aW3,.box [iA (nm b (j+1) R6),iA 0,.v (.slice none 0 0)]] (aj6 n [(7,iA (nm b (j+1) R6)),(8,.ptr 7 0)]) fun G=>b6 (wp_seq (wp_seq (G3 G (w6 1 [] (aq9 (nm b (j+1) R6))) (aj6 n [(8,.ptr 7 0),(9,iA (v5 (nm b (j+1) R6)))]) fun G=>b6 (wp_block ?_)))))));obtain⟨ρ,G⟩:=G.nilT 8 (.exprs []) [.box [.ref 1,iA (j+1+1)],dY b,dI vs,dI ars,dT bd,.box (pL 2),.box [iA 0,iA 0,.v (.slice none 0 0)],.box [iA (nm b (j+1) R6),iA 0,.tref 8]] (aj6 n [(8,.ptr 7 0),(9,iA (v5 (nm b (j+1) R6)))]);replace G:=G.as [.box [.ref 1,iA (drK b (vs.length:Int) (ars.length:Int) d j (v5 (nm b (j+1) R6)-v5 (nm b (j+1) R6)).toNat).snd],dY b,dI vs,dI ars,dT bd,.box (pL 2),.box [iA 0,iA 0,.v (.slice none 0 0)],.box [iA (nm b (j+1) R6),iA 0,.tref 8],.tree (D.exprs (drK b (vs.length:Int) (ars.length:Int) d j (v5 (nm b (j+1) R6)-v5 (nm b (j+1) R6)).toNat).fst)] (aj6 n [(8,.ptr 7 0),(9,iA (v5 (nm b (j+1) R6)))]) (by have e1:((drK b (vs.length:Int) (ars.length:Int) d j (v5 (nm b (j+1) R6)-v5 (nm b (j+1) R6)).toNat).snd:Int)=(j+1+1):=(by rw[Int.sub_self];show j+2=j+1+1;omega);have e2:((drK b (vs.length:Int) (ars.length:Int) d j (v5 (nm b (j+1) R6)-v5 (nm b (j+1) R6)).toNat).fst:List c6)=([]):=(by rw[Int.sub_self];rfl);(first|rw[e1,e2]|simp only[e1,e2])<;>rfl) aj;refine x6 (κ:=Int) (fun k=>0<=k/\k<=v5 (nm b (j+1) R6)) (fun k=>k.toNat) (fun k=>[.box [.ref 1,iA (drK b vs.length ars.length d j (v5 (nm b (j+1) R6)-k).toNat).2],dY b,dI vs,dI ars,dT bd,.box (pL 2),.box [iA 0,iA 0,.v (.slice none 0 0)],.box [iA (nm b (j+1) R6),iA 0,.tref 8],.tree (.exprs (drK b vs.length ars.length d j (v5 (nm b (j+1) R6)-k).toNat).1)]) (fun k=>[(0,.ptr 0 0),(2,iA n),(4,.ptr 5 0),(6,.ptr 6 0),(8,.ptr 7 0),(9,iA k)]) (v5 (nm b (j+1) R6)) al (x7.at G _ _) ?_;clear G;intro k ρ a w hp G;replace G:=x7.at G [.box [.ref 1,iA (aL2 b vs ars d j k).snd],dY b,dI vs,dI ars,dT bd,.box (pL 2),aW3,.box [iA (nm b (j+1) R6),iA 0,.tref 8],.tree (D.exprs (aL2 b vs ars d j k).fst)] (aj6 n [(8,.ptr 7 0),(9,iA k)]);have hkb:=cm9 (b:=b) (nv:=vs.length) (na:=ars.length) (d:=d) (j:=j) r0 (k:=(v5 (nm b (j+1) R6)-k).toNat) al;have hkl:(drK b vs.length ars.length d j (v5 (nm b (j+1) R6)-k).toNat).1.length=(v5 (nm b (j+1) R6)-k).toNat:=a76 _ _ _;refine wp_seq (wp_seq (l8 G f8 [(48,bA (decide (k>0)))] fun G=>b6 (rcD G (fun h4 q4=>?_) fun h4 q4=>?_)))
     · refine wp_exit (v8 (v8 (v6 (b6 (wp_seq (j9 G f8 [0,1,2,3,4,6,8] [.box [.ref 1,iA (aL2 b vs ars d j k).snd],dY b,dI vs,dI ars,dT bd,.box [iA (nm b (j+1) R6),iA 0,.tref 6],.tree (D.exprs (aL2 b vs ars d j k).fst)] [(6,.ptr 5 0)] fun G=>b6 (wp_ret ?_)))))));exact Z1 (.agg [iA (nm b (j+1) R6),iA 0,.tref 6]) G [0,1,2,3,4,6] (by show _=AV.ren (nth [0,1,2,3,4,6]) (aE3 b vs ars d j);unfold aE3;rw[cm6 (m:=k) hd al al al al]<;>rfl) (by show _=mR [0,1,2,3,4,6] (aE2 b vs ars bd d j);unfold aE2;rw[cm6 (m:=k) hd al al al al]<;>rfl)
     refine wp_skip (b6 (wp_seq (wp_block (S8 G (w6 6 (rg 5) (ih ((drK b (vs.length:Int) (ars.length:Int) d j (v5 (nm b (j+1) R6)-k).toNat).snd) (n-1) al al (cm8 al al al al r1))) [0,1,0,0,0,16,60,124,255,511,1023] [0,1,2,3,4,5,6,7,73] [.box [.ref 1,iA (P7 b (vs.length:Int) (ars.length:Int) d (aL2 b vs ars d j k).snd).snd],dY b,dI vs,dI ars,dT bd,.box (pL 2),aW3,.box [iA (nm b (j+1) R6),iA 0,.tref 8],.tree (D.exprs ((aL2 b vs ars d j k).fst++[z4 (P7 b (vs.length:Int) (ars.length:Int) d (aL2 b vs ars d j k).snd).fst]))] (aj6 n [(8,.ptr 7 0),(9,iA k)]) ((wO (n-1))::(aP ((drK b (vs.length:Int) (ars.length:Int) d j (v5 (nm b (j+1) R6)-k).toNat).fst.length+1) 40 [])) ⟨oW al,(aK al cx2)⟩ fun G=>p8 (b6 (P4 G f8 [(9,iA (k-1))] [wO (k-1)] (o1 al) fun G=>b6 ?_))))));exact U5 G (k-1) al al (rg 9) (by have e1:((drK b (vs.length:Int) (ars.length:Int) d j (v5 (nm b (j+1) R6)-(k-1)).toNat).snd:Int)=((P7 b (vs.length:Int) (ars.length:Int) d (drK b (vs.length:Int) (ars.length:Int) d j (v5 (nm b (j+1) R6)-k).toNat).snd).snd):=(by rw[by7 al al];done);have e2:((drK b (vs.length:Int) (ars.length:Int) d j (v5 (nm b (j+1) R6)-(k-1)).toNat).fst:List c6)=((drK b (vs.length:Int) (ars.length:Int) d j (v5 (nm b (j+1) R6)-k).toNat).fst++[z4 (P7 b (vs.length:Int) (ars.length:Int) d (drK b (vs.length:Int) (ars.length:Int) d j (v5 (nm b (j+1) R6)-k).toNat).snd).fst]):=(by rw[by7 al al];(simp only[c6.eta];done));(first|rw[e1,e2]|simp only[e1,e2])<;>rfl)
    refine wp_seq (wp_seq (l8 G f8 [(28,bA ((ars.length:Int)==0))] fun G=>b6 (S4 G (fun h3 q3=>?_) fun h3 q3=>?_)))
    · refine wp_skip (b6 (wp_seq (ak3 G (I2 (v9 5 [0,1] (D7 b (j+1+1) ((ars.length:Int)) al al) (v9 8 (rg 5) (aD3 b (j+1+1+1) vs ars bd al al) I1)) fz []) [0,0,0,4,12,30,0,0,254,510,1023,2047] [0,1,2,3,4,5,6,79] [.box [.ref 1,iA (j+1+1+1+2)],dY b,dI vs,dI ars,dT bd,.box (pL 2),.box [iA (nm b (j+1) R6),iA (pk b (j+1+1) (ars.length:Int)),.tref 7],.tree (D.exprs [z4 (s4 b (vs.length:Int) (j+1+1+1))])] (aj6 n [(7,iA (nm b (j+1) R6))]) fun G=>b6 (wp_ret (l7 ?_)))));exact Z1 (.agg [iA (nm b (j+1) R6),iA (pk b (j+1+1) (ars.length:Int)),.tref 7]) G [0,1,2,3,4,7] (by show _=AV.ren (nth [0,1,2,3,4,7]) (aE3 b vs ars d j);unfold aE3;have e1:((P7 b (vs.length:Int) (ars.length:Int) (d+1) j).fst.kind:Int)=(nm b (j+1) R6):=(by rw[b06 hd al al al];(simp only[Int.add_assoc,Int.reduceAdd,c6.eta,c6.kids,c6.kind,c6.value];omega));have e2:((P7 b (vs.length:Int) (ars.length:Int) (d+1) j).fst.value:Int)=(pk b (j+1+1) (ars.length:Int)):=(by rw[b06 hd al al al];(simp only[Int.add_assoc,Int.reduceAdd,c6.eta,c6.kids,c6.kind,c6.value];done));(first|rw[e1,e2]|simp only[e1,e2])<;>rfl) (by show _=mR [0,1,2,3,4,7] (aE2 b vs ars bd d j);unfold aE2;have e1:((P7 b (vs.length:Int) (ars.length:Int) (d+1) j).snd:Int)=(j+1+1+1+2):=(by rw[b06 hd al al al];(simp only[Int.add_assoc,Int.reduceAdd,c6.eta,c6.kids,c6.kind,c6.value];done));have e2:((P7 b (vs.length:Int) (ars.length:Int) (d+1) j).fst.kids:List c6)=([z4 (s4 b (vs.length:Int) (j+1+1+1))]):=(by rw[b06 hd al al al];show [_]=_;simp only[Int.add_assoc,Int.reduceAdd,c6.eta];done);(first|rw[e1,e2]|simp only[e1,e2])<;>rfl)
    refine wp_seq (j9 G (w6 2 (rg 5) (aD3 b (j+1+1) vs ars bd al al)) [0,1,2,3,4,5,6,23] [.box [.ref 1,iA (j+1+1+2)],dY b,dI vs,dI ars,dT bd,.box (pL 2),.box [iA (s4 b (vs.length:Int) (j+1+1)).kind,iA (s4 b (vs.length:Int) (j+1+1)).value,.tref 7],.tree (D.exprs (s4 b (vs.length:Int) (j+1+1)).kids)] (aj6 n [(7,iA (nm b (j+1) R6))]) fun G=>b6 (wp_ret (l7 (l7 ?_))));exact Z1 (.agg [iA (s4 b (vs.length:Int) (j+1+1)).kind,iA (s4 b (vs.length:Int) (j+1+1)).value,.tref 7]) G [0,1,2,3,4,7] (by show _=AV.ren (nth [0,1,2,3,4,7]) (aE3 b vs ars d j);unfold aE3;have e1:((P7 b (vs.length:Int) (ars.length:Int) (d+1) j).fst.kind:Int)=((s4 b (vs.length:Int) (j+1+1)).kind):=(by rw[b07 hd al al al];(simp only[Int.add_assoc,Int.reduceAdd,c6.eta,c6.kids,c6.kind,c6.value];done));have e2:((P7 b (vs.length:Int) (ars.length:Int) (d+1) j).fst.value:Int)=((s4 b (vs.length:Int) (j+1+1)).value):=(by rw[b07 hd al al al];(simp only[Int.add_assoc,Int.reduceAdd,c6.eta,c6.kids,c6.kind,c6.value];done));(first|rw[e1,e2]|simp only[e1,e2])<;>rfl) (by show _=mR [0,1,2,3,4,7] (aE2 b vs ars bd d j);unfold aE2;have e1:((P7 b (vs.length:Int) (ars.length:Int) (d+1) j).snd:Int)=(j+1+1+2):=(by rw[b07 hd al al al];(simp only[Int.add_assoc,Int.reduceAdd,c6.eta,c6.kids,c6.kind,c6.value];done));have e2:((P7 b (vs.length:Int) (ars.length:Int) (d+1) j).fst:c6)=(s4 b (vs.length:Int) (j+1+1)):=(by rw[b07 hd al al al];(simp only[Int.add_assoc,Int.reduceAdd,c6.eta,c6.kids,c6.kind,c6.value];done));(first|rw[e1,e2]|simp only[e1,e2])<;>rfl)
   refine wp_seq (j9 G (w6 2 (rg 5) (aD3 b (j+1) vs ars bd al al)) [0,1,2,3,4,5,6,23] [.box [.ref 1,iA (j+1+2)],dY b,dI vs,dI ars,dT bd,.box (pL 2),.box [iA (s4 b (vs.length:Int) (j+1)).kind,iA (s4 b (vs.length:Int) (j+1)).value,.tref 7],.tree (D.exprs (s4 b (vs.length:Int) (j+1)).kids)] (aj6 n []) fun G=>b6 (wp_ret (l7 ?_)));exact Z1 (.agg [iA (s4 b (vs.length:Int) (j+1)).kind,iA (s4 b (vs.length:Int) (j+1)).value,.tref 7]) G [0,1,2,3,4,7] (by show _=AV.ren (nth [0,1,2,3,4,7]) (aE3 b vs ars d j);unfold aE3;rw[cc1 hd al]<;>rfl) (by show _=mR [0,1,2,3,4,7] (aE2 b vs ars bd d j);unfold aE2;have e1:((P7 b (vs.length:Int) (ars.length:Int) (d+1) j).snd:Int)=(j+1+2):=(by rw[cc1 hd al];(simp only[Int.add_assoc,Int.reduceAdd,c6.eta,c6.kids,c6.kind,c6.value];done));rw[e1,cc1 hd al]<;>rfl)
  have q0:=dTt h0;exact False.elim al
theorem bU1(b:List UInt8)(vs ars:List Int)(bd:List c5):∀(d:Nat) (j n:Int),d<=100->n=d->0<=j->j+cE d<=800000000->j8.ok Tryz.prog (drC b vs ars bd d j n)
 |0,j,n,_,hn,r0,r1=>bv1 b vs ars bd 0 al j n hn r0 (by have:=aT2 0;omega)
 |1,j,n,_,hn,r0,r1=>bv1 b vs ars bd 1 al j n hn r0 (by have:=aT2 1;omega)
 |d+2,j,n,hd,hn,r0,r1=>bX3 b vs ars bd (d+1) al al (fun j n=>bU1 b vs ars bd (d+1) j n al) j n hn r0 r1
abbrev smC(b:List UInt8)(vs ars:List Int)(bd:List c5)(j:Int):j8:=⟨189,[.ptr 0 0,pA 2],dwS b j vs ars bd,dwS b (z8 b vs.length ars.length j).2 vs ars bd++exO (z8 b vs.length ars.length j).1,exA (z8 b vs.length ars.length j).1 5⟩
section
variable{b:List UInt8}{nv na:Nat}{j:Int}
theorem cg2(h:t4 nv na (P7 b nv na (nm b j dpL).toNat (j+1)).1=true):z8 b nv na j=P7 b nv na (nm b j dpL).toNat (j+1):=if_pos h
theorem cg1(h:t4 nv na (P7 b nv na (nm b j dpL).toNat (j+1)).1=false):z8 b nv na j=(s4 b nv (P7 b nv na (nm b j dpL).toNat (j+1)).2,(P7 b nv na (nm b j dpL).toNat (j+1)).2+2):=if_neg (by rw[h];decide)
theorem cp6(r0:0<=j)(r1:j<=700000000):cE (nm b j dpL).toNat<=364:=cE4 (dp4 b r0 al).2.2
end
abbrev af6(b:List UInt8)(vs:List Int)(ars:List Int)(j:Int):=P7 b (vs.length:Int) (ars.length:Int) (nm b j dpL).toNat (j+1)
theorem aj3(b:List UInt8)(vs ars:List Int)(bd:List c5)(j:Int)(r0:0<=j)(r1:j<=700000000):j8.ok Tryz.prog (smC b vs ars bd j):=by
 have hdr:=fun(i n:Int)=>bU1 b vs ars bd (nm b j dpL).toNat i n (cx8 (dp4 b r0 al).2.2 al)
 refine H9 19 Tryz.func189 [.box [.ref 1,iA j],dY b,dI vs,dI ars,dT bd] [(0,.ptr 0 0),(1,pA 2)] fun G=>?_;have hd4:=cp6 (b:=b) r0 r1;have hdb:=bg5 b vs.length ars.length (nm b j dpL).toNat (j+1);refine wp_seq (j9 G f8 [0,1,2,3,4,5,13] [.box [.ref 1,iA j],dY b,dI vs,dI ars,dT bd,.box (pL 2),.box [iA 0,iA 0,.v (.slice none 0 0)]] [(0,.ptr 0 0),(3,.ptr 5 0),(4,.ptr 6 0)] fun G=>b6 (wp_seq (ak3 G (I2 (v9 4 [0,1,31] (j8.lend (T6 b j dpL (List.cons_ne_nil _ _) ai al) [.no,.no,.row 3]) (v9 5 (rg 5) (hdr (j+1) (nm b j dpL) (cc3 b al al) al al) I1)) fz []) [0,0,0,0,12,31,0,127] [0,1,2,3,4,5,6,47,55] [.box [.ref 1,iA (af6 b vs ars j).snd],dY b,dI vs,dI ars,dT bd,.box (pL 2),.box [iA 0,iA 0,.v (.slice none 0 0)],.tree (D.exprs (af6 b vs ars j).fst.kids),.box [iA (af6 b vs ars j).fst.kind,iA (af6 b vs ars j).fst.value,.tref 7]] [(0,.ptr 0 0),(3,.ptr 5 0),(4,.ptr 6 0),(5,.ptr 8 0)] fun G=>b6 (wp_seq (wp_seq (l8 G (w6 2 [2,3,4,7] (j8.lend (br7 vs ars bd ((P7 b (vs.length:Int) (ars.length:Int) (nm b j dpL).toNat (j+1)).fst)) [.no,.no,.no,.tree])) [(14,bA (t4 vs.length ars.length (af6 b vs ars j).fst))] fun G=>b6 (rcB (b:=t4 vs.length ars.length (P7 b (vs.length:Int) (ars.length:Int) (nm b j dpL).toNat (j+1)).fst) G (fun h0=>?_) fun h0=>?_)))))))
 ·refine wp_skip (b6 (wp_seq (j9 G (w6 2 (rg 5) (aD3 b ((P7 b (vs.length:Int) (ars.length:Int) (nm b j dpL).toNat (j+1)).snd) vs ars bd al al)) [0,1,2,3,4,6,25] [.box [.ref 1,iA ((af6 b vs ars j).snd+2)],dY b,dI vs,dI ars,dT bd,.box [iA (s4 b (vs.length:Int) (af6 b vs ars j).snd).kind,iA (s4 b (vs.length:Int) (af6 b vs ars j).snd).value,.tref 6],.tree (D.exprs (s4 b (vs.length:Int) (af6 b vs ars j).snd).kids)] [(4,.ptr 5 0)] fun G=>b6 (wp_ret ?_))));exact Z1 (.agg [iA (s4 b (vs.length:Int) (P7 b (vs.length:Int) (ars.length:Int) (nm b j dpL).toNat (j+1)).snd).kind,iA (s4 b (vs.length:Int) (P7 b (vs.length:Int) (ars.length:Int) (nm b j dpL).toNat (j+1)).snd).value,.tref 6]) G [0,1,2,3,4,6] (by show _=AV.ren (nth [0,1,2,3,4,6]) (.agg [iA (z8 b vs.length ars.length j).fst.kind,iA (z8 b vs.length ars.length j).fst.value,.tref 5]);rw[cg1 ab]<;>rfl) (by show _=mR [0,1,2,3,4,6] [.box [.ref 1,iA (z8 b vs.length ars.length j).snd],dY b,dI vs,dI ars,dT bd,.tree (D.exprs (z8 b vs.length ars.length j).fst.kids)];rw[cg1 ab]<;>rfl)
 refine wp_seq (j9 G f8 (rg 8) [.box [.ref 1,iA (af6 b vs ars j).snd],dY b,dI vs,dI ars,dT bd,.box (pL 2),.box [iA (af6 b vs ars j).fst.kind,iA (af6 b vs ars j).fst.value,.tref 7],.tree (D.exprs (af6 b vs ars j).fst.kids)] [(0,.ptr 0 0),(3,.ptr 5 0),(4,.ptr 6 0)] fun G=>b6 (wp_ret (l7 ?_)));exact Z1 (.agg [iA (P7 b (vs.length:Int) (ars.length:Int) (nm b j dpL).toNat (j+1)).fst.kind,iA (P7 b (vs.length:Int) (ars.length:Int) (nm b j dpL).toNat (j+1)).fst.value,.tref 7]) G [0,1,2,3,4,7] (by show _=AV.ren (nth [0,1,2,3,4,7]) (.agg [iA (z8 b vs.length ars.length j).fst.kind,iA (z8 b vs.length ars.length j).fst.value,.tref 5]);rw[cg2 ab]<;>rfl) (by show _=mR [0,1,2,3,4,7] [.box [.ref 1,iA (z8 b vs.length ars.length j).snd],dY b,dI vs,dI ars,dT bd,.tree (D.exprs (z8 b vs.length ars.length j).fst.kids)];rw[cg2 ab]<;>rfl)
abbrev stO(s:c5):List It:=[.tree (.exprs s.index.kids),.tree (.exprs s.value.kids),.tree (.stmts s.body),.tree (.stmts s.els)]
abbrev stA(s:c5)(r:Nat):AV:=.agg [iA s.kind,iA s.target,iA s.index.kind,iA s.index.value,.tref r,iA s.value.kind,iA s.value.value,.tref (r+1),iA s.count,.tref (r+2),.tref (r+3)]
abbrev dsC(b:List UInt8)(vs ars:List Int)(bd:List c5)(d:Nat)(j n:Int):j8:=⟨171,[.ptr 0 0,pA 2,iA n],dwS b j vs ars bd,dwS b (E1 b vs.length ars.length d j).2 vs ars bd++stO (E1 b vs.length ars.length d j).1,stA (E1 b vs.length ars.length d j).1 5⟩
abbrev dbC(b:List UInt8)(vs ars:List Int)(bd:List c5)(d:Nat)(m:Nat)(j n c:Int):j8:=⟨126,[.ptr 0 0,pA 2,iA n,iA c],dwS b j vs ars bd,dwS b (J6 (E1 b vs.length ars.length d) m j).2 vs ars bd++[.tree (.stmts (J6 (E1 b vs.length ars.length d) m j).1)],.tref 5⟩
section
variable{b:List UInt8}{nv na d:Nat}{j:Int}
theorem bI9(h:nm b j O4=2)(h1:0<(na:Int)):E1 b nv na d j=soS b nv na (j+1):=by
 cases d<;>(rw[E1,if_pos ⟨h,al⟩])
theorem cg0(h:nm b j O4=3)(h1:0<d):E1 b nv na (d+1) j=ifS b nv na (E1 b nv na d) (j+1):=by
 rw[E1,if_neg al,if_pos ⟨h,al⟩]
theorem cf9(h:nm b j O4=4)(h1:0<d):E1 b nv na (d+1) j=rpS b (E1 b nv na d) (j+1):=by
 rw[E1,if_neg al,if_neg al,if_pos ⟨h,al⟩]
theorem al8(h:¬(nm b j O4=2/\0<(na:Int)))(h1:d<2\/(¬nm b j O4=3/\¬nm b j O4=4)):E1 b nv na d j=dfS b nv na (nm b j O4) (j+1):=by
 match d,h1 with
 |0,_=>rw[E1,if_neg al]
 |d+1,h1=>rw[E1,if_neg al,if_neg al,if_neg al]
theorem cc4{kd:Int}(h:kd=5):dfS b nv na kd j=(⟨5,pk b j nv,noE,(z8 b nv na (j+1)).1,0,[],[]⟩,(z8 b nv na (j+1)).2):=by rw[dfS,if_pos h]
theorem bg6{kd:Int}(h:¬kd=5):dfS b nv na kd j=(⟨1,pk b j nv,noE,(z8 b nv na (j+1)).1,0,[],[]⟩,(z8 b nv na (j+1)).2):=by rw[dfS,if_neg h]
end
section
variable(b:List UInt8){j:Int}
theorem cu1(r0:0<=j)(r1:j<=1000000000):0<=nm b j ibL/\nm b j ibL<=2:=aY2 b an bp3 r0 r1
theorem cu0(r0:0<=j)(r1:j<=1000000000):0<=nm b j ieL/\nm b j ieL<=2:=aY2 b an bp1 r0 r1
theorem cq6(r0:0<=j)(r1:j<=1000000000):0<=nm b j rbL/\nm b j rbL<=2:=aY2 b an bm7 r0 r1
theorem b22(d:Nat):(d=0/\cS (d-1)=402/\cS d<=2010)\/cS d=402+4*cS (d-1):=by
 cases d with
 |zero=>exact .inl ⟨rfl,rfl,ak⟩
 |succ d=>exact .inr rfl
end
section
variable{b:List UInt8}{nv na d:Nat}{j:Int}
theorem bl0(h:nm b j O4=3)(h1:1<d):E1 b nv na d j=ifS b nv na (E1 b nv na (d-1)) (j+1):=by
 match d,h1 with
 |d+1,h1=>exact cg0 h al
theorem bk9(h:nm b j O4=4)(h1:1<d):E1 b nv na d j=rpS b (E1 b nv na (d-1)) (j+1):=by
 match d,h1 with
 |d+1,h1=>exact cf9 h al
end
abbrev b32(b:List UInt8)(vs:List Int)(ars:List Int)(d:Nat)(j:Int)(k:Nat):=E1 b vs.length ars.length d (J6 (E1 b vs.length ars.length d) k j).snd
abbrev a89(n:Int)(c:Int)(r0:List (Nat×AV)):List (Nat×AV):=(0,.ptr 0 0)::(2,iA n)::(3,iA c)::(5,.ptr 5 0)::(8,.v (.slice none 0 0))::r0
theorem bX4(b:List UInt8)(vs ars:List Int)(bd:List c5)(d m:Nat)(ih:∀(j n:Int),n=d->0<=j->j+cS d<=600000000->j8.ok Tryz.prog (dsC b vs ars bd d j n))(j n c:Int)(hn:n=d)(hm:c=m)(hm2:m<=4)(B:Int)(hB:(m:Int)*cS d<=B)(r0:0<=j)(r1:j+B<=600000000):j8.ok Tryz.prog (dbC b vs ars bd d m j n c):=by
 refine H9 25 Tryz.func126 [.box [.ref 1,iA j],dY b,dI vs,dI ars,dT bd] [(0,.ptr 0 0),(1,pA 2),(2,iA n),(3,iA c)] fun G=>?_;have hc:=aG0 d;refine wp_seq (j9 G f8 (rg 6) [.box [.ref 1,iA j],dY b,dI vs,dI ars,dT bd,.box (pL 2)] (a89 n c []) fun G=>b6 (wp_seq (j9 G f8 (rg 7) [.box [.ref 1,iA j],dY b,dI vs,dI ars,dT bd,.box (pL 2),.tree (D.stmts [])] (a89 n c [(9,.tref 6)]) fun G=>b6 (wp_seq (wp_seq (G3 G f8 (a89 n c [(9,.tref 6),(10,iA 0)]) fun G=>b6 (wp_block ?_)))))));refine x6 (κ:=Nat) (fun k=>k<=m) (fun k=>m-k) (fun k=>[.box [.ref 1,iA (J6 (E1 b vs.length ars.length d) k j).2],dY b,dI vs,dI ars,dT bd,.box (pL 2),.tree (.stmts (J6 (E1 b vs.length ars.length d) k j).1)]) (fun k=>[(0,.ptr 0 0),(2,iA n),(3,iA c),(5,.ptr 5 0),(8,.v (.slice none 0 0)),(9,.tref 6),(10,iA k)]) 0 al (x7.at G _ _) ?_;clear G;intro k ρ a w hp G;replace G:=x7.at G [.box [.ref 1,iA (J6 (E1 b vs.length ars.length d) k j).snd],dY b,dI vs,dI ars,dT bd,.box (pL 2),.tree (D.stmts (J6 (E1 b vs.length ars.length d) k j).fst)] (a89 n c [(9,.tref 6),(10,iA k)]);have hkb:=b60 b vs.length ars.length (k:=j) (i:=k) hB al r0 al;have hkl:(J6 (E1 b vs.length ars.length d) k j).1.length=k:=a76 _ _ _;refine wp_seq (wp_seq (l8 G f8 [(14,bA (decide ((k:Int)<c)))] fun G=>b6 (rcD G (fun h0 q0=>?_) fun h0 q0=>?_)))
 ·refine wp_exit (v8 (v8 (v6 (b6 (wp_seq (j9 G f8 [0,1,2,3,4,6] [.box [.ref 1,iA (J6 (E1 b vs.length ars.length d) k j).snd],dY b,dI vs,dI ars,dT bd,.tree (D.stmts (J6 (E1 b vs.length ars.length d) k j).fst)] [(8,.tref 5)] fun G=>b6 (wp_ret ?_)))))));exact O8 G (rg 6) (by show _=mR (rg 6) [.box [.ref 1,iA (J6 (E1 b vs.length ars.length d) m j).snd],dY b,dI vs,dI ars,dT bd,.tree (D.stmts (J6 (E1 b vs.length ars.length d) m j).fst)];rw[show m=k by omega]<;>rfl)
 refine wp_skip (b6 (wp_seq (wp_block (rA1 G (w6 4 (rg 5) (ih ((J6 (E1 b vs.length ars.length d) k j).snd) n ai al (by have:=co3 b vs.length ars.length (k:=j) (i:=k) hB al r0 al;omega))) [0,1,2,3,4,5,55] [.box [.ref 1,iA (b32 b vs ars d j k).snd],dY b,dI vs,dI ars,dT bd,.box (pL 2),.tree (D.stmts ((J6 (E1 b vs.length ars.length d) k j).fst++[qzS (b32 b vs ars d j k).fst]))] (a89 n c [(9,.tref 6),(10,iA k)]) (aP ((J6 (E1 b vs.length ars.length d) k j).fst.length+1) 152 []) (aK al cx2) fun G=>p8 (b6 (P4 G f8 [(10,iA ((k:Int)+1))] [wO ((k:Int)+1)] (o1 al) fun G=>b6 ?_))))));exact U5 G (k+1) al al (rg 7) (by have e1:((J6 (E1 b vs.length ars.length d) (k+1) j).fst:List c5)=((J6 (E1 b vs.length ars.length d) k j).fst++[qzS (E1 b vs.length ars.length d (J6 (E1 b vs.length ars.length d) k j).snd).fst]):=(by show _++[_]=_++[_];unfold qzS;rw[c6.eta,c6.eta,c5.eta];done);(first|rw[e1]|simp only[e1])<;>rfl)
abbrev aW2(b:List UInt8)(vs:List Int)(ars:List Int)(d:Nat)(j:Int):=J6 (E1 b vs.length ars.length (d-1)) (nm b (z8 b vs.length ars.length (j+1)).snd ibL).toNat ((z8 b vs.length ars.length (j+1)).snd+1)
abbrev bt7(b:List UInt8)(vs:List Int)(ars:List Int)(d:Nat)(j:Int):=J6 (E1 b vs.length ars.length (d-1)) (nm b (aW2 b vs ars d j).snd ieL).toNat ((aW2 b vs ars d j).snd+1)
abbrev Z7(b:List UInt8)(vs:List Int)(ars:List Int)(d:Nat)(j:Int):AV:=(.agg [iA (E1 b vs.length ars.length d j).fst.kind,iA (E1 b vs.length ars.length d j).fst.target,iA (E1 b vs.length ars.length d j).fst.index.kind,iA (E1 b vs.length ars.length d j).fst.index.value,.tref 5,iA (E1 b vs.length ars.length d j).fst.value.kind,iA (E1 b vs.length ars.length d j).fst.value.value,.tref 6,iA (E1 b vs.length ars.length d j).fst.count,.tref 7,.tref 8])
abbrev Z6(b:List UInt8)(vs:List Int)(ars:List Int)(bd:List c5)(d:Nat)(j:Int):List It:=[.box [.ref 1,iA (E1 b vs.length ars.length d j).snd],dY b,dI vs,dI ars,dT bd,.tree (D.exprs (E1 b vs.length ars.length d j).fst.index.kids),.tree (D.exprs (E1 b vs.length ars.length d j).fst.value.kids),.tree (D.stmts (E1 b vs.length ars.length d j).fst.body),.tree (D.stmts (E1 b vs.length ars.length d j).fst.els)]
abbrev av6:It:=.box [iA 0,iA 0,iA 0,iA 0,.v (.slice none 0 0),iA 0,iA 0,.v (.slice none 0 0),iA 0,.v (.slice none 0 0),.v (.slice none 0 0)]
abbrev bt6(b:List UInt8)(vs:List Int)(ars:List Int)(j:Int):It:=.box [iA 1,iA (pk b (j+1) (vs.length:Int)),iA 0,iA 0,.v (.slice none 0 0),iA (z8 b vs.length ars.length (j+1+1)).fst.kind,iA (z8 b vs.length ars.length (j+1+1)).fst.value,.tref 7,iA 0,.v (.slice none 0 0),.v (.slice none 0 0)]
abbrev bt5(b:List UInt8)(vs:List Int)(ars:List Int)(j:Int):It:=.box [iA 1,iA (pk b (j+1) (vs.length:Int)),iA 0,iA 0,.v (.slice none 0 0),iA (z8 b vs.length ars.length (j+1+1)).fst.kind,iA (z8 b vs.length ars.length (j+1+1)).fst.value,.tref 6,iA 0,.v (.slice none 0 0),.v (.slice none 0 0)]
abbrev bt4(b:List UInt8)(vs:List Int)(j:Int):It:=.box [iA 1,iA (pk b (j+1) (vs.length:Int)),iA 0,iA 0,.v (.slice none 0 0),iA 0,iA 0,.v (.slice none 0 0),iA 0,.v (.slice none 0 0),.v (.slice none 0 0)]
abbrev ar4(b:List UInt8)(vs:List Int)(ars:List Int)(j:Int):It:=.tree (D.exprs (z8 b vs.length ars.length (j+1+1)).fst.kids)
abbrev af0(b:List UInt8)(vs:List Int)(ars:List Int)(j:Int):It:=.box [.ref 1,iA (z8 b vs.length ars.length (j+1+1)).snd]
abbrev a19:It:=.box [iA 1,iA 0,iA 0,iA 0,.v (.slice none 0 0),iA 0,iA 0,.v (.slice none 0 0),iA 0,.v (.slice none 0 0),.v (.slice none 0 0)]
abbrev bs7(b:List UInt8)(vs:List Int)(ars:List Int)(bd:List c5)(j:Int)(r0:List It):List It:=.box [.ref 1,iA (z8 b vs.length ars.length (j+1+1)).snd]::dY b::dI vs::dI ars::dT bd::.box [iA 1,iA (pk b (j+1) (vs.length:Int)),iA 0,iA 0,.tref 7,iA (z8 b vs.length ars.length (j+1+1)).fst.kind,iA (z8 b vs.length ars.length (j+1+1)).fst.value,.tref 6,iA 0,.tref 8,.tref 9]::.tree (D.exprs (z8 b vs.length ars.length (j+1+1)).fst.kids)::.tree (D.exprs [])::.tree (D.stmts [])::r0
abbrev bs6(b:List UInt8)(vs:List Int)(ars:List Int)(bd:List c5)(j:Int)(r0:List It):List It:=.box [.ref 1,iA (z8 b vs.length ars.length (j+1+1)).snd]::dY b::dI vs::dI ars::dT bd::.box [iA 1,iA (pk b (j+1) (vs.length:Int)),iA 0,iA 0,.tref 7,iA (z8 b vs.length ars.length (j+1+1)).fst.kind,iA (z8 b vs.length ars.length (j+1+1)).fst.value,.tref 6,iA 0,.tref 8,.v (.slice none 0 0)]::.tree (D.exprs (z8 b vs.length ars.length (j+1+1)).fst.kids)::.tree (D.exprs [])::r0
abbrev bs5(b:List UInt8)(vs:List Int)(ars:List Int)(bd:List c5)(j:Int)(r0:List It):List It:=.box [.ref 1,iA (z8 b vs.length ars.length (j+1+1)).snd]::dY b::dI vs::dI ars::dT bd::.box [iA 1,iA (pk b (j+1) (vs.length:Int)),iA 0,iA 0,.tref 7,iA (z8 b vs.length ars.length (j+1+1)).fst.kind,iA (z8 b vs.length ars.length (j+1+1)).fst.value,.tref 6,iA 0,.v (.slice none 0 0),.v (.slice none 0 0)]::.tree (D.exprs (z8 b vs.length ars.length (j+1+1)).fst.kids)::r0
abbrev ad6(r0:List (Nat×AV)):List (Nat×AV):=(0,.ptr 0 0)::(4,.ptr 5 0)::(6,.ptr 6 0)::(8,.ptr 7 0)::r0
abbrev a88(b:List UInt8)(vs:List Int)(ars:List Int)(d:Nat)(j:Int)(r0:List It):List It:=.box [.ref 1,iA (J6 (E1 b vs.length ars.length (d-1)) (nm b (j+1+1) rbL).toNat (j+1+1+1)).snd]::dY b::dI vs::dI ars::r0
abbrev av4(n:Int)(r0:List (Nat×AV)):List (Nat×AV):=(0,.ptr 0 0)::(2,iA n)::(4,.ptr 5 0)::(6,.ptr 6 0)::r0
abbrev X5(b:List UInt8)(vs:List Int)(ars:List Int)(bd:List c5)(r0:List It):List It:=dY b::dI vs::dI ars::dT bd::.box (pL 2)::av6::r0
abbrev bs4(b:List UInt8)(vs:List Int)(ars:List Int)(j:Int)(r0:List It):List It:=.tree (D.exprs (s4 b (vs.length:Int) (j+1+1)).kids)::.tree (D.exprs (z8 b vs.length ars.length (j+1+1+2)).fst.kids)::r0
theorem bJ7(b:List UInt8)(vs ars:List Int)(bd:List c5)(d:Nat)(hd:d<=3)(ih:∀(j n c:Int),1<d->n=(d:Int)-1->0<=c->c<=2->0<=j->j+2*cS (d-1)<=600000000->j8.ok Tryz.prog (dbC b vs ars bd (d-1) c.toNat j n c))(j n:Int)(hn:n=d)(r0:0<=j)(r1:j+cS d<=600000000):j8.ok Tryz.prog (dsC b vs ars bd d j n):=by
  refine H9 100 Tryz.func171 [.box [.ref 1,iA j],dY b,dI vs,dI ars,dT bd] [(0,.ptr 0 0),(1,pA 2),(2,iA n)] fun G=>?_;have hc:=aG0 (d-1);have hcd:=b22 d;have hcn:=aG0 d;have hsm:=bu8 b vs.length ars.length (k:=j+1) al al;have hib:=cu1 b (j:=(z8 b vs.length ars.length (j+1)).2) al al;have hbb:=b60 b vs.length ars.length (k:=(z8 b vs.length ars.length (j+1)).2+1) (i:=(nm b (z8 b vs.length ars.length (j+1)).2 ibL).toNat) (cj1 hib.1 hib.2 (show 0<=cS (d-1) by omega)) (cv7 _) al al;have hie:=cu0 b (j:=(J6 (E1 b vs.length ars.length (d-1)) (nm b (z8 b vs.length ars.length (j+1)).2 ibL).toNat ((z8 b vs.length ars.length (j+1)).2+1)).2) al al;have hrb:=cq6 b (j:=j+1+1) al al;refine wp_seq (j9 G f8 [0,1,2,3,4,5,13] (.box [.ref 1,iA j]::(X5 b vs ars bd [])) (av4 n []) fun G=>b6 (wp_seq (j9 G (w6 2 [0,1,15] (j8.lend (T6 b j O4 (List.cons_ne_nil _ _) ai al) [.no,.no,.row 3])) (rg 7) (.box [.ref 1,iA (j+1)]::(X5 b vs ars bd [])) (av4 n [(7,iA (nm b j O4))]) fun G=>b6 (wp_seq (j9 G f8 [0,1,2,3,4,5,6,23] (.box [.ref 1,iA (j+1)]::(X5 b vs ars bd [.box [iA (nm b j O4),iA 0,iA 0,iA 0,.v (.slice none 0 0),iA 0,iA 0,.v (.slice none 0 0),iA 0,.v (.slice none 0 0),.v (.slice none 0 0)]])) (av4 n [(7,iA (nm b j O4)),(8,.ptr 7 0)]) fun G=>b6 (wp_seq (wp_block (wp_seq ?_))))))));cases h0:(nm b j O4==2)
  ·
   have q0:=ne_of_beq_false h0;refine l8 G (K6 (fc h0 fz) (us [(3,6,0),(1007,1007,0)])) [(27,bA false)] fun G=>b6 (rF G false aj (wp_seq ?_));cases h1:(nm b j O4==3)
   ·
    have q1:=ne_of_beq_false h1;refine l8 G (K6 (fc h1 fz) [(3,0),(4,0),(1005,0)]) [(50,bA false)] fun G=>b6 (rF G false aj (wp_seq ?_));cases h2:(nm b j O4==4)
    ·
     have q2:=ne_of_beq_false h2;refine l8 G (K6 (fc h2 fz) [(3,0),(4,0),(1005,0)]) [(79,bA false)] fun G=>b6 (rF G false aj (wp_seq (wp_seq (l8 G f8 [(15,bA (nm b j O4 !=5))] fun G=>b6 (rcN G (fun h3 q3=>?_) fun h3 q3=>?_)))))
     · refine wp_skip (b6 (wp_seq (j9 G (w6 4 [0,1] (D7 b (j+1) ((vs.length:Int)) al al)) (rg 8) (.box [.ref 1,iA (j+1+1)]::(X5 b vs ars bd [.box [iA (nm b j O4),iA (pk b (j+1) (vs.length:Int)),iA 0,iA 0,.v (.slice none 0 0),iA 0,iA 0,.v (.slice none 0 0),iA 0,.v (.slice none 0 0),.v (.slice none 0 0)]])) (ad6 []) fun G=>b6 (j9 G (w6 2 (rg 5) (aj3 b vs ars bd (j+1+1) al al)) [0,1,2,3,4,6,7,24] [af0 b vs ars j,dY b,dI vs,dI ars,dT bd,av6,.box [iA (nm b j O4),iA (pk b (j+1) (vs.length:Int)),iA 0,iA 0,.v (.slice none 0 0),iA (z8 b vs.length ars.length (j+1+1)).fst.kind,iA (z8 b vs.length ars.length (j+1+1)).fst.value,.tref 7,iA 0,.v (.slice none 0 0),.v (.slice none 0 0)],ar4 b vs ars j] [(6,.ptr 5 0),(8,.ptr 6 0)] fun G=>p8 (b6 (wp_seq (j9 G f8 [0,1,2,3,4,5,7] [af0 b vs ars j,dY b,dI vs,dI ars,dT bd,.box [iA (nm b j O4),iA (pk b (j+1) (vs.length:Int)),iA 0,iA 0,.v (.slice none 0 0),iA (z8 b vs.length ars.length (j+1+1)).fst.kind,iA (z8 b vs.length ars.length (j+1+1)).fst.value,.tref 6,iA 0,.v (.slice none 0 0),.v (.slice none 0 0)],ar4 b vs ars j] [(6,.ptr 5 0)] fun G=>b6 (wp_ret ?_))))))));obtain⟨ρ,G⟩:=G.nilT 7 (.exprs []) [.box [.ref 1,iA (z8 b vs.length ars.length (j+1+1)).snd],dY b,dI vs,dI ars,dT bd,.box [iA (nm b j O4),iA (pk b (j+1) (vs.length:Int)),iA 0,iA 0,.tref 7,iA (z8 b vs.length ars.length (j+1+1)).fst.kind,iA (z8 b vs.length ars.length (j+1+1)).fst.value,.tref 6,iA 0,.v (.slice none 0 0),.v (.slice none 0 0)],.tree (D.exprs (z8 b vs.length ars.length (j+1+1)).fst.kids)] [(6,.ptr 5 0)];obtain⟨ρ,G⟩:=G.nilT 8 (.stmts []) [.box [.ref 1,iA (z8 b vs.length ars.length (j+1+1)).snd],dY b,dI vs,dI ars,dT bd,.box [iA (nm b j O4),iA (pk b (j+1) (vs.length:Int)),iA 0,iA 0,.tref 7,iA (z8 b vs.length ars.length (j+1+1)).fst.kind,iA (z8 b vs.length ars.length (j+1+1)).fst.value,.tref 6,iA 0,.tref 8,.v (.slice none 0 0)],.tree (D.exprs (z8 b vs.length ars.length (j+1+1)).fst.kids),.tree (D.exprs [])] [(6,.ptr 5 0)];obtain⟨ρ,G⟩:=G.nilT 9 (.stmts []) [.box [.ref 1,iA (z8 b vs.length ars.length (j+1+1)).snd],dY b,dI vs,dI ars,dT bd,.box [iA (nm b j O4),iA (pk b (j+1) (vs.length:Int)),iA 0,iA 0,.tref 7,iA (z8 b vs.length ars.length (j+1+1)).fst.kind,iA (z8 b vs.length ars.length (j+1+1)).fst.value,.tref 6,iA 0,.tref 8,.tref 9],.tree (D.exprs (z8 b vs.length ars.length (j+1+1)).fst.kids),.tree (D.exprs []),.tree (D.stmts [])] [(6,.ptr 5 0)];exact Z1 (.agg [iA (nm b j O4),iA (pk b (j+1) (vs.length:Int)),iA 0,iA 0,.tref 7,iA (z8 b vs.length ars.length (j+1+1)).fst.kind,iA (z8 b vs.length ars.length (j+1+1)).fst.value,.tref 6,iA 0,.tref 8,.tref 9]) G [0,1,2,3,4,7,6,8,9] (by show _=AV.ren (nth [0,1,2,3,4,7,6,8,9]) (Z7 b vs ars d j);unfold Z7;have e1:((E1 b vs.length ars.length d j).fst.kind:Int)=(nm b j O4):=(by rw[al8 al al,cc4 al];show(5:Int)=_;omega);rw[e1,al8 al al,cc4 al]<;>rfl) (by show _=mR [0,1,2,3,4,7,6,8,9] (Z6 b vs ars bd d j);unfold Z6;rw[al8 al al,cc4 al]<;>rfl)
     refine j9 G f8 (rg 8) (.box [.ref 1,iA (j+1)]::(X5 b vs ars bd [a19])) (ad6 []) fun G=>b6 (wp_seq (j9 G (w6 4 [0,1] (D7 b (j+1) ((vs.length:Int)) al al)) (rg 8) (.box [.ref 1,iA (j+1+1)]::(X5 b vs ars bd [bt4 b vs j])) (ad6 []) fun G=>b6 (j9 G (w6 2 (rg 5) (aj3 b vs ars bd (j+1+1) al al)) [0,1,2,3,4,6,7,24] [af0 b vs ars j,dY b,dI vs,dI ars,dT bd,av6,bt6 b vs ars j,ar4 b vs ars j] [(6,.ptr 5 0),(8,.ptr 6 0)] fun G=>p8 (b6 (wp_seq (j9 G f8 [0,1,2,3,4,5,7] [af0 b vs ars j,dY b,dI vs,dI ars,dT bd,bt5 b vs ars j,ar4 b vs ars j] [(6,.ptr 5 0)] fun G=>b6 (wp_ret ?_)))))));obtain⟨ρ,G⟩:=G.nilT 7 (.exprs []) (bs5 b vs ars bd j []) [(6,.ptr 5 0)];obtain⟨ρ,G⟩:=G.nilT 8 (.stmts []) (bs6 b vs ars bd j []) [(6,.ptr 5 0)];obtain⟨ρ,G⟩:=G.nilT 9 (.stmts []) (bs7 b vs ars bd j []) [(6,.ptr 5 0)];exact Z1 (.agg [iA 1,iA (pk b (j+1) (vs.length:Int)),iA 0,iA 0,.tref 7,iA (z8 b vs.length ars.length (j+1+1)).fst.kind,iA (z8 b vs.length ars.length (j+1+1)).fst.value,.tref 6,iA 0,.tref 8,.tref 9]) G [0,1,2,3,4,7,6,8,9] (by show _=AV.ren (nth [0,1,2,3,4,7,6,8,9]) (Z7 b vs ars d j);unfold Z7;rw[al8 al al,bg6 al]<;>rfl) (by show _=mR [0,1,2,3,4,7,6,8,9] (Z6 b vs ars bd d j);unfold Z6;rw[al8 al al,bg6 al]<;>rfl)
    have q2:=eq_of_beq h2;refine l8 G (K6 (fc h2 fz) [(3,0),(4,0),(1005,0)]) [(79,bA (decide (n>1)))] fun G=>b6 (rcD G (fun h4 q4=>?_) fun h4 q4=>?_)
    ·
     refine wp_seq (wp_seq (G3 G f8 (ad6 [(15,bA (nm b j O4 !=5))]) fun G=>b6 ?_));cases h5:(nm b j O4 !=5)
     · have q5:=bne_eq_false_iff_eq.1 h5;exact False.elim al
     have q5:=bne_iff_ne.1 h5;refine rT G _ h5 (j9 G f8 (rg 8) (.box [.ref 1,iA (j+1)]::(X5 b vs ars bd [a19])) (ad6 []) fun G=>b6 (wp_seq (j9 G (w6 4 [0,1] (D7 b (j+1) ((vs.length:Int)) al al)) (rg 8) (.box [.ref 1,iA (j+1+1)]::(X5 b vs ars bd [bt4 b vs j])) (ad6 []) fun G=>b6 (j9 G (w6 2 (rg 5) (aj3 b vs ars bd (j+1+1) al al)) [0,1,2,3,4,6,7,24] [af0 b vs ars j,dY b,dI vs,dI ars,dT bd,av6,bt6 b vs ars j,ar4 b vs ars j] [(6,.ptr 5 0),(8,.ptr 6 0)] fun G=>p8 (b6 (wp_seq (j9 G f8 [0,1,2,3,4,5,7] [af0 b vs ars j,dY b,dI vs,dI ars,dT bd,bt5 b vs ars j,ar4 b vs ars j] [(6,.ptr 5 0)] fun G=>b6 (wp_ret ?_))))))));obtain⟨ρ,G⟩:=G.nilT 7 (.exprs []) (bs5 b vs ars bd j []) [(6,.ptr 5 0)];obtain⟨ρ,G⟩:=G.nilT 8 (.stmts []) (bs6 b vs ars bd j []) [(6,.ptr 5 0)];obtain⟨ρ,G⟩:=G.nilT 9 (.stmts []) (bs7 b vs ars bd j []) [(6,.ptr 5 0)];exact Z1 (.agg [iA 1,iA (pk b (j+1) (vs.length:Int)),iA 0,iA 0,.tref 7,iA (z8 b vs.length ars.length (j+1+1)).fst.kind,iA (z8 b vs.length ars.length (j+1+1)).fst.value,.tref 6,iA 0,.tref 8,.tref 9]) G [0,1,2,3,4,7,6,8,9] (by show _=AV.ren (nth [0,1,2,3,4,7,6,8,9]) (Z7 b vs ars d j);unfold Z7;rw[al8 al al,bg6 al]<;>rfl) (by show _=mR [0,1,2,3,4,7,6,8,9] (Z6 b vs ars bd d j);unfold Z6;rw[al8 al al,bg6 al]<;>rfl)
    refine wp_seq (j9 G (w6 2 [0,1,16] (j8.lend (T6 b (j+1) rcL (by simp[h0,h1,h2,h4]) al al) [.no,.no,.row 3])) (rg 8) (.box [.ref 1,iA (j+1+1)]::(X5 b vs ars bd [.box [iA (nm b j O4),iA 0,iA 0,iA 0,.v (.slice none 0 0),iA 0,iA 0,.v (.slice none 0 0),iA (nm b (j+1) rcL),.v (.slice none 0 0),.v (.slice none 0 0)]])) (av4 n [(8,.ptr 7 0)]) fun G=>b6 (S8 G (I2 (v9 6 [0,1,48] (j8.lend (T6 b (j+1+1) rbL (by simp[h0,h1,h2,h4]) al al) [.no,.no,.row 3]) (v9 7 (rg 5) (ih (j+1+1+1) (n-1) (nm b (j+1+1) rbL) al al al al al al) I1)) fz []) [0,0,0,4,0,0,48,127,255,511] [0,1,2,3,4,6,7,64] (a88 b vs ars d j [dT bd,av6,.box [iA (nm b j O4),iA 0,iA 0,iA 0,.v (.slice none 0 0),iA 0,iA 0,.v (.slice none 0 0),iA (nm b (j+1) rcL),.tref 7,.v (.slice none 0 0)],.tree (D.stmts (J6 (E1 b vs.length ars.length (d-1)) (nm b (j+1+1) rbL).toNat (j+1+1+1)).fst)]) [(6,.ptr 5 0),(8,.ptr 6 0)] [wO (n-1)] (o1 al) fun G=>p8 (b6 (wp_seq (j9 G f8 [0,1,2,3,4,5,7] (a88 b vs ars d j [dT bd,.box [iA (nm b j O4),iA 0,iA 0,iA 0,.v (.slice none 0 0),iA 0,iA 0,.v (.slice none 0 0),iA (nm b (j+1) rcL),.tref 6,.v (.slice none 0 0)],.tree (D.stmts (J6 (E1 b vs.length ars.length (d-1)) (nm b (j+1+1) rbL).toNat (j+1+1+1)).fst)]) [(6,.ptr 5 0)] fun G=>b6 (wp_ret ?_))))));obtain⟨ρ,G⟩:=G.nilT 7 (.exprs []) (a88 b vs ars d j [dT bd,.box [iA (nm b j O4),iA 0,iA 0,iA 0,.tref 7,iA 0,iA 0,.v (.slice none 0 0),iA (nm b (j+1) rcL),.tref 6,.v (.slice none 0 0)],.tree (D.stmts (J6 (E1 b vs.length ars.length (d-1)) (nm b (j+1+1) rbL).toNat (j+1+1+1)).fst)]) [(6,.ptr 5 0)];obtain⟨ρ,G⟩:=G.nilT 8 (.exprs []) (a88 b vs ars d j [dT bd,.box [iA (nm b j O4),iA 0,iA 0,iA 0,.tref 7,iA 0,iA 0,.tref 8,iA (nm b (j+1) rcL),.tref 6,.v (.slice none 0 0)],.tree (D.stmts (J6 (E1 b vs.length ars.length (d-1)) (nm b (j+1+1) rbL).toNat (j+1+1+1)).fst),.tree (D.exprs [])]) [(6,.ptr 5 0)];obtain⟨ρ,G⟩:=G.nilT 9 (.stmts []) (a88 b vs ars d j [dT bd,.box [iA (nm b j O4),iA 0,iA 0,iA 0,.tref 7,iA 0,iA 0,.tref 8,iA (nm b (j+1) rcL),.tref 6,.tref 9],.tree (D.stmts (J6 (E1 b vs.length ars.length (d-1)) (nm b (j+1+1) rbL).toNat (j+1+1+1)).fst),.tree (D.exprs []),.tree (D.exprs [])]) [(6,.ptr 5 0)];exact Z1 (.agg [iA (nm b j O4),iA 0,iA 0,iA 0,.tref 7,iA 0,iA 0,.tref 8,iA (nm b (j+1) rcL),.tref 6,.tref 9]) G [0,1,2,3,4,7,8,6,9] (by show _=AV.ren (nth [0,1,2,3,4,7,8,6,9]) (Z7 b vs ars d j);unfold Z7;have e1:((E1 b vs.length ars.length d j).fst.kind:Int)=(nm b j O4):=(by rw[bk9 al al];show(4:Int)=_;omega);rw[e1,bk9 al al]<;>rfl) (by show _=mR [0,1,2,3,4,7,8,6,9] (Z6 b vs ars bd d j);unfold Z6;rw[bk9 al al]<;>rfl)
   have q1:=eq_of_beq h1;refine G3 G (K6 (fc h1 fz) [(3,0),(4,0),(1005,0)]) (av4 n [(7,iA (nm b j O4)),(8,.ptr 7 0),(50,bA (decide (n>1)))]) fun G=>b6 (rcD G (fun h6 q6=>?_) fun h6 q6=>?_)
   ·
    refine wp_seq ?_;cases h7:(nm b j O4==4)
    ·
     have q7:=ne_of_beq_false h7;refine l8 G (K6 (fc h7 fz) [(3,0),(4,0),(1005,0)]) [(79,bA false)] fun G=>b6 (rF G false aj (wp_seq (wp_seq (G3 G f8 (ad6 [(15,bA (nm b j O4 !=5))]) fun G=>b6 ?_))));cases h8:(nm b j O4 !=5)
     · have q8:=bne_eq_false_iff_eq.1 h8;exact False.elim al
     have q8:=bne_iff_ne.1 h8;refine rT G _ h8 (j9 G f8 (rg 8) (.box [.ref 1,iA (j+1)]::(X5 b vs ars bd [a19])) (ad6 []) fun G=>b6 (wp_seq (j9 G (w6 4 [0,1] (D7 b (j+1) ((vs.length:Int)) al al)) (rg 8) (.box [.ref 1,iA (j+1+1)]::(X5 b vs ars bd [bt4 b vs j])) (ad6 []) fun G=>b6 (j9 G (w6 2 (rg 5) (aj3 b vs ars bd (j+1+1) al al)) [0,1,2,3,4,6,7,24] [af0 b vs ars j,dY b,dI vs,dI ars,dT bd,av6,bt6 b vs ars j,ar4 b vs ars j] [(6,.ptr 5 0),(8,.ptr 6 0)] fun G=>p8 (b6 (wp_seq (j9 G f8 [0,1,2,3,4,5,7] [af0 b vs ars j,dY b,dI vs,dI ars,dT bd,bt5 b vs ars j,ar4 b vs ars j] [(6,.ptr 5 0)] fun G=>b6 (wp_ret ?_))))))));obtain⟨ρ,G⟩:=G.nilT 7 (.exprs []) (bs5 b vs ars bd j []) [(6,.ptr 5 0)];obtain⟨ρ,G⟩:=G.nilT 8 (.stmts []) (bs6 b vs ars bd j []) [(6,.ptr 5 0)];obtain⟨ρ,G⟩:=G.nilT 9 (.stmts []) (bs7 b vs ars bd j []) [(6,.ptr 5 0)];exact Z1 (.agg [iA 1,iA (pk b (j+1) (vs.length:Int)),iA 0,iA 0,.tref 7,iA (z8 b vs.length ars.length (j+1+1)).fst.kind,iA (z8 b vs.length ars.length (j+1+1)).fst.value,.tref 6,iA 0,.tref 8,.tref 9]) G [0,1,2,3,4,7,6,8,9] (by show _=AV.ren (nth [0,1,2,3,4,7,6,8,9]) (Z7 b vs ars d j);unfold Z7;rw[al8 al al,bg6 al]<;>rfl) (by show _=mR [0,1,2,3,4,7,6,8,9] (Z6 b vs ars bd d j);unfold Z6;rw[al8 al al,bg6 al]<;>rfl)
    have q7:=eq_of_beq h7;exact False.elim al
   refine wp_seq (j9 G (w6 2 (rg 5) (aj3 b vs ars bd (j+1) al al)) [0,1,2,3,4,5,6,7,24] (.box [.ref 1,iA (z8 b vs.length ars.length (j+1)).snd]::(X5 b vs ars bd [.box [iA (nm b j O4),iA 0,iA 0,iA 0,.v (.slice none 0 0),iA (z8 b vs.length ars.length (j+1)).fst.kind,iA (z8 b vs.length ars.length (j+1)).fst.value,.tref 8,iA 0,.v (.slice none 0 0),.v (.slice none 0 0)],.tree (D.exprs (z8 b vs.length ars.length (j+1)).fst.kids)])) (av4 n [(8,.ptr 7 0)]) fun G=>b6 (wp_seq (S8 G (I2 (v9 6 [0,1,49] (j8.lend (T6 b ((z8 b vs.length ars.length (j+1)).snd) ibL (by simp[h0,h1,h6]) al al) [.no,.no,.row 3]) (v9 7 (rg 5) (ih ((z8 b vs.length ars.length (j+1)).snd+1) (n-1) (nm b (z8 b vs.length ars.length (j+1)).snd ibL) al al al al al al) I1)) fz []) [0,0,0,4,0,0,48,127,255,511] [0,1,2,3,4,5,6,7,8,65] (.box [.ref 1,iA (aW2 b vs ars d j).snd]::(X5 b vs ars bd [.box [iA (nm b j O4),iA 0,iA 0,iA 0,.v (.slice none 0 0),iA (z8 b vs.length ars.length (j+1)).fst.kind,iA (z8 b vs.length ars.length (j+1)).fst.value,.tref 8,iA 0,.tref 9,.v (.slice none 0 0)],.tree (D.exprs (z8 b vs.length ars.length (j+1)).fst.kids),.tree (D.stmts (aW2 b vs ars d j).fst)])) (av4 n [(8,.ptr 7 0)]) [wO (n-1)] (o1 al) fun G=>b6 (S8 G (I2 (v9 6 [0,1,50] (j8.lend (T6 b ((J6 (E1 b vs.length ars.length (d-1)) (nm b (z8 b vs.length ars.length (j+1)).snd ibL).toNat ((z8 b vs.length ars.length (j+1)).snd+1)).snd) ieL (by simp[h0,h1,h6]) al al) [.no,.no,.row 3]) (v9 7 (rg 5) (ih ((J6 (E1 b vs.length ars.length (d-1)) (nm b (z8 b vs.length ars.length (j+1)).snd ibL).toNat ((z8 b vs.length ars.length (j+1)).snd+1)).snd+1) (n-1) (nm b (J6 (E1 b vs.length ars.length (d-1)) (nm b (z8 b vs.length ars.length (j+1)).snd ibL).toNat ((z8 b vs.length ars.length (j+1)).snd+1)).snd ieL) al al al al al al) I1)) fz []) [0,0,0,4,0,0,48,127,255,511] [0,1,2,3,4,6,7,8,9,66] [.box [.ref 1,iA (bt7 b vs ars d j).snd],dY b,dI vs,dI ars,dT bd,av6,.box [iA (nm b j O4),iA 0,iA 0,iA 0,.v (.slice none 0 0),iA (z8 b vs.length ars.length (j+1)).fst.kind,iA (z8 b vs.length ars.length (j+1)).fst.value,.tref 7,iA 0,.tref 8,.tref 9],.tree (D.exprs (z8 b vs.length ars.length (j+1)).fst.kids),.tree (D.stmts (aW2 b vs ars d j).fst),.tree (D.stmts (bt7 b vs ars d j).fst)] [(6,.ptr 5 0),(8,.ptr 6 0)] [wO (n-1)] (o1 al) fun G=>p8 (b6 (wp_seq (j9 G f8 [0,1,2,3,4,5,7,8,9] [.box [.ref 1,iA (bt7 b vs ars d j).snd],dY b,dI vs,dI ars,dT bd,.box [iA (nm b j O4),iA 0,iA 0,iA 0,.v (.slice none 0 0),iA (z8 b vs.length ars.length (j+1)).fst.kind,iA (z8 b vs.length ars.length (j+1)).fst.value,.tref 6,iA 0,.tref 7,.tref 8],.tree (D.exprs (z8 b vs.length ars.length (j+1)).fst.kids),.tree (D.stmts (aW2 b vs ars d j).fst),.tree (D.stmts (bt7 b vs ars d j).fst)] [(6,.ptr 5 0)] fun G=>b6 (wp_ret ?_))))))));obtain⟨ρ,G⟩:=G.nilT 9 (.exprs []) [.box [.ref 1,iA (J6 (E1 b vs.length ars.length (d-1)) (nm b (J6 (E1 b vs.length ars.length (d-1)) (nm b (z8 b vs.length ars.length (j+1)).snd ibL).toNat ((z8 b vs.length ars.length (j+1)).snd+1)).snd ieL).toNat ((J6 (E1 b vs.length ars.length (d-1)) (nm b (z8 b vs.length ars.length (j+1)).snd ibL).toNat ((z8 b vs.length ars.length (j+1)).snd+1)).snd+1)).snd],dY b,dI vs,dI ars,dT bd,.box [iA (nm b j O4),iA 0,iA 0,iA 0,.tref 9,iA (z8 b vs.length ars.length (j+1)).fst.kind,iA (z8 b vs.length ars.length (j+1)).fst.value,.tref 6,iA 0,.tref 7,.tref 8],.tree (D.exprs (z8 b vs.length ars.length (j+1)).fst.kids),.tree (D.stmts (J6 (E1 b vs.length ars.length (d-1)) (nm b (z8 b vs.length ars.length (j+1)).snd ibL).toNat ((z8 b vs.length ars.length (j+1)).snd+1)).fst),.tree (D.stmts (J6 (E1 b vs.length ars.length (d-1)) (nm b (J6 (E1 b vs.length ars.length (d-1)) (nm b (z8 b vs.length ars.length (j+1)).snd ibL).toNat ((z8 b vs.length ars.length (j+1)).snd+1)).snd ieL).toNat ((J6 (E1 b vs.length ars.length (d-1)) (nm b (z8 b vs.length ars.length (j+1)).snd ibL).toNat ((z8 b vs.length ars.length (j+1)).snd+1)).snd+1)).fst)] [(6,.ptr 5 0)]
   exact Z1 (.agg [iA (nm b j O4),iA 0,iA 0,iA 0,.tref 9,iA (z8 b vs.length ars.length (j+1)).fst.kind,iA (z8 b vs.length ars.length (j+1)).fst.value,.tref 6,iA 0,.tref 7,.tref 8]) G [0,1,2,3,4,9,6,7,8] (by show _=AV.ren (nth [0,1,2,3,4,9,6,7,8]) (Z7 b vs ars d j);unfold Z7;have e1:((E1 b vs.length ars.length d j).fst.kind:Int)=(nm b j O4):=(by rw[bl0 al al];show(3:Int)=_;omega);rw[e1,bl0 al al]<;>rfl) (by show _=mR [0,1,2,3,4,9,6,7,8] (Z6 b vs ars bd d j);unfold Z6;rw[bl0 al al]<;>rfl)
  have q0:=eq_of_beq h0;refine G3 G (K6 (fc h0 fz) (us [(3,6,0),(1007,1007,0)])) (av4 n [(7,iA (nm b j O4)),(8,.ptr 7 0),(27,bA (decide ((ars.length:Int)>0)))]) fun G=>b6 (rcD G (fun h9 q9=>?_) fun h9 q9=>?_)
  ·
   refine wp_seq ?_;cases h10:(nm b j O4==3)
   ·
    have q10:=ne_of_beq_false h10;refine G3 G (K6 (fc h10 fz) [(3,0),(4,0),(1005,0)]) (av4 n [(7,iA (nm b j O4)),(8,.ptr 7 0),(50,bA false)]) fun G=>b6 (rF G false aj (wp_seq ?_));cases h11:(nm b j O4==4)
    ·
     have q11:=ne_of_beq_false h11;refine l8 G (K6 (fc h11 fz) [(3,0),(4,0),(1005,0)]) [(79,bA false)] fun G=>b6 (rF G false aj (wp_seq (wp_seq (G3 G f8 (ad6 [(15,bA (nm b j O4 !=5))]) fun G=>b6 ?_))));cases h12:(nm b j O4 !=5)
     · have q12:=bne_eq_false_iff_eq.1 h12;exact False.elim al
     have q12:=bne_iff_ne.1 h12;refine rT G _ h12 (j9 G f8 (rg 8) (.box [.ref 1,iA (j+1)]::(X5 b vs ars bd [a19])) (ad6 []) fun G=>b6 (wp_seq (j9 G (w6 4 [0,1] (D7 b (j+1) ((vs.length:Int)) al al)) (rg 8) (.box [.ref 1,iA (j+1+1)]::(X5 b vs ars bd [bt4 b vs j])) (ad6 []) fun G=>b6 (j9 G (w6 2 (rg 5) (aj3 b vs ars bd (j+1+1) al al)) [0,1,2,3,4,6,7,24] [af0 b vs ars j,dY b,dI vs,dI ars,dT bd,av6,bt6 b vs ars j,ar4 b vs ars j] [(6,.ptr 5 0),(8,.ptr 6 0)] fun G=>p8 (b6 (wp_seq (j9 G f8 [0,1,2,3,4,5,7] [af0 b vs ars j,dY b,dI vs,dI ars,dT bd,bt5 b vs ars j,ar4 b vs ars j] [(6,.ptr 5 0)] fun G=>b6 (wp_ret ?_))))))));obtain⟨ρ,G⟩:=G.nilT 7 (.exprs []) (bs5 b vs ars bd j []) [(6,.ptr 5 0)];obtain⟨ρ,G⟩:=G.nilT 8 (.stmts []) (bs6 b vs ars bd j []) [(6,.ptr 5 0)];obtain⟨ρ,G⟩:=G.nilT 9 (.stmts []) (bs7 b vs ars bd j []) [(6,.ptr 5 0)];exact Z1 (.agg [iA 1,iA (pk b (j+1) (vs.length:Int)),iA 0,iA 0,.tref 7,iA (z8 b vs.length ars.length (j+1+1)).fst.kind,iA (z8 b vs.length ars.length (j+1+1)).fst.value,.tref 6,iA 0,.tref 8,.tref 9]) G [0,1,2,3,4,7,6,8,9] (by show _=AV.ren (nth [0,1,2,3,4,7,6,8,9]) (Z7 b vs ars d j);unfold Z7;rw[al8 al al,bg6 al]<;>rfl) (by show _=mR [0,1,2,3,4,7,6,8,9] (Z6 b vs ars bd d j);unfold Z6;rw[al8 al al,bg6 al]<;>rfl)
    have q11:=eq_of_beq h11;exact False.elim al
   have q10:=eq_of_beq h10;exact False.elim al
  refine wp_seq (j9 G (w6 4 [0,1] (D7 b (j+1) ((ars.length:Int)) al al)) (rg 8) (.box [.ref 1,iA (j+1+1)]::(X5 b vs ars bd [.box [iA (nm b j O4),iA (pk b (j+1) (ars.length:Int)),iA 0,iA 0,.v (.slice none 0 0),iA 0,iA 0,.v (.slice none 0 0),iA 0,.v (.slice none 0 0),.v (.slice none 0 0)]])) (ad6 []) fun G=>b6 (wp_seq (j9 G (w6 2 (rg 5) (aD3 b (j+1+1) vs ars bd al al)) [0,1,2,3,4,5,6,7,24] (.box [.ref 1,iA (j+1+1+2)]::(X5 b vs ars bd [.box [iA (nm b j O4),iA (pk b (j+1) (ars.length:Int)),iA (s4 b (vs.length:Int) (j+1+1)).kind,iA (s4 b (vs.length:Int) (j+1+1)).value,.tref 8,iA 0,iA 0,.v (.slice none 0 0),iA 0,.v (.slice none 0 0),.v (.slice none 0 0)],.tree (D.exprs (s4 b (vs.length:Int) (j+1+1)).kids)])) (ad6 []) fun G=>b6 (j9 G (w6 2 (rg 5) (aj3 b vs ars bd (j+1+1+2) al al)) [0,1,2,3,4,6,7,8,25] (.box [.ref 1,iA (z8 b vs.length ars.length (j+1+1+2)).snd]::dY b::dI vs::dI ars::dT bd::av6::.box [iA (nm b j O4),iA (pk b (j+1) (ars.length:Int)),iA (s4 b (vs.length:Int) (j+1+1)).kind,iA (s4 b (vs.length:Int) (j+1+1)).value,.tref 7,iA (z8 b vs.length ars.length (j+1+1+2)).fst.kind,iA (z8 b vs.length ars.length (j+1+1+2)).fst.value,.tref 8,iA 0,.v (.slice none 0 0),.v (.slice none 0 0)]::(bs4 b vs ars j [])) [(6,.ptr 5 0),(8,.ptr 6 0)] fun G=>p8 (b6 (wp_seq (j9 G f8 [0,1,2,3,4,5,7,8] (.box [.ref 1,iA (z8 b vs.length ars.length (j+1+1+2)).snd]::dY b::dI vs::dI ars::dT bd::.box [iA (nm b j O4),iA (pk b (j+1) (ars.length:Int)),iA (s4 b (vs.length:Int) (j+1+1)).kind,iA (s4 b (vs.length:Int) (j+1+1)).value,.tref 6,iA (z8 b vs.length ars.length (j+1+1+2)).fst.kind,iA (z8 b vs.length ars.length (j+1+1+2)).fst.value,.tref 7,iA 0,.v (.slice none 0 0),.v (.slice none 0 0)]::(bs4 b vs ars j [])) [(6,.ptr 5 0)] fun G=>b6 (wp_ret ?_))))))));obtain⟨ρ,G⟩:=G.nilT 8 (.stmts []) (.box [.ref 1,iA (z8 b vs.length ars.length (j+1+1+2)).snd]::dY b::dI vs::dI ars::dT bd::.box [iA (nm b j O4),iA (pk b (j+1) (ars.length:Int)),iA (s4 b (vs.length:Int) (j+1+1)).kind,iA (s4 b (vs.length:Int) (j+1+1)).value,.tref 6,iA (z8 b vs.length ars.length (j+1+1+2)).fst.kind,iA (z8 b vs.length ars.length (j+1+1+2)).fst.value,.tref 7,iA 0,.tref 8,.v (.slice none 0 0)]::(bs4 b vs ars j [])) [(6,.ptr 5 0)];obtain⟨ρ,G⟩:=G.nilT 9 (.stmts []) (.box [.ref 1,iA (z8 b vs.length ars.length (j+1+1+2)).snd]::dY b::dI vs::dI ars::dT bd::.box [iA (nm b j O4),iA (pk b (j+1) (ars.length:Int)),iA (s4 b (vs.length:Int) (j+1+1)).kind,iA (s4 b (vs.length:Int) (j+1+1)).value,.tref 6,iA (z8 b vs.length ars.length (j+1+1+2)).fst.kind,iA (z8 b vs.length ars.length (j+1+1+2)).fst.value,.tref 7,iA 0,.tref 8,.tref 9]::(bs4 b vs ars j [.tree (D.stmts [])])) [(6,.ptr 5 0)]
  exact Z1 (.agg [iA (nm b j O4),iA (pk b (j+1) (ars.length:Int)),iA (s4 b (vs.length:Int) (j+1+1)).kind,iA (s4 b (vs.length:Int) (j+1+1)).value,.tref 6,iA (z8 b vs.length ars.length (j+1+1+2)).fst.kind,iA (z8 b vs.length ars.length (j+1+1+2)).fst.value,.tref 7,iA 0,.tref 8,.tref 9]) G [0,1,2,3,4,6,7,8,9] (by show _=AV.ren (nth [0,1,2,3,4,6,7,8,9]) (Z7 b vs ars d j);unfold Z7;have e1:((E1 b vs.length ars.length d j).fst.kind:Int)=(nm b j O4):=(by rw[bI9 al al];show(2:Int)=_;omega);rw[e1,bI9 al al]<;>rfl) (by show _=mR [0,1,2,3,4,6,7,8,9] (Z6 b vs ars bd d j);unfold Z6;rw[bI9 al al]<;>rfl)
theorem bi0(b:List UInt8)(vs ars:List Int)(bd:List c5)(d:Nat)(h:∀(j n:Int),n=d->0<=j->j+cS d<=600000000->j8.ok Tryz.prog (dsC b vs ars bd d j n))(m:Nat)(j n c B:Int)(hn:n=d)(hm:c=m)(hm2:m<=4)(hB:(m:Int)*cS d<=B)(r0:0<=j)(r1:j+B<=600000000):j8.ok Tryz.prog (dbC b vs ars bd d m j n c):=
 bX4 b vs ars bd d m h j n c hn hm hm2 B hB r0 r1
theorem bS1(b:List UInt8)(vs ars:List Int)(bd:List c5):∀(d:Nat),d<=3->∀(j n:Int),n=d->0<=j->j+cS d<=600000000->j8.ok Tryz.prog (dsC b vs ars bd d j n)
 |0,hd,j,n,hn,r0,r1=>bJ7 b vs ars bd 0 al (fun j n c h=>absurd h al) j n hn r0 r1
 |d+1,hd,j,n,hn,r0,r1=>bJ7 b vs ars bd (d+1) hd (fun j n c h hn h0 h2 r0 r1=>bi0 b vs ars bd d (bS1 b vs ars bd d al) c.toNat j n c (2*cS d) al al al (cj1 h0 h2 (Int.le_trans ak (aG0 d))) r0 (by simpa using r1)) j n hn r0 r1
theorem co2:cS 3=34170:=ak
theorem cd4(b:List UInt8)(vs ars:List Int)(bd:List c5)(j n c:Int)(hn:n=3)(h0:0<=c)(h4:c<=4)(r0:0<=j)(r1:j<=100000000):j8.ok Tryz.prog (dbC b vs ars bd 3 c.toNat j n c):=
 bi0 b vs ars bd 3 (bS1 b vs ars bd 3 al) c.toNat j n c (4*cS 3) al al al (cs6 h0 h4 (by rw[co2];decide)) r0 (by rw[co2];omega)
abbrev pgC(b:List UInt8)(j:Int):j8:=⟨86,[.ptr 0 0],[.box [.ref 1,iA j],dY b],[.box [.ref 1,iA (R9 b j).2],dY b]++oP (O5 b j),oA 2⟩
theorem bw4{b:List UInt8}{l:List Int}{n i p:Int}(h:i>0)(h2:i<=n):nsD b l (n-(i-1)).toNat p=nsD b l (n-i).toNat p++[nm b (p+(n-i)) l]:=by
 rw[show(n-(i-1)).toNat=(n-i).toNat+1 by omega,bN6,show(((n-i).toNat:Nat):Int)=n-i by omega]
theorem bw3{b:List UInt8}{l:List Int}{n p:Int}:nsD b l (n-n).toNat p=[]:=by rw[Int.sub_self];rfl
theorem aj9(vs ars:List Int)(bd:List c5)(hb:i9 bd<=1048576):j8.ok Tryz.prog (Y3 92 [pA 0] [dI vs,dI ars,dT bd] (bA (m6 ⟨vs,ars,bd⟩))):=T7 ⟨vs,ars,bd⟩ hb
theorem cs4{b:List UInt8}{j:Int}(h:m6 ⟨vsD b j,asD b j,(J6 (E1 b (vsD b j).length (asD b j).length 3) (nm b (kp2 b j) nbL).toNat (kp2 b j+1)).1⟩=true):O5 b j=⟨vsD b j,asD b j,(R9 b j).1⟩:=if_pos h
theorem cs3{b:List UInt8}{j:Int}(h:m6 ⟨vsD b j,asD b j,(J6 (E1 b (vsD b j).length (asD b j).length 3) (nm b (kp2 b j) nbL).toNat (kp2 b j+1)).1⟩=false):O5 b j=fbP:=if_neg (by intro h2;have h3:m6 ⟨vsD b j,asD b j,(J6 (E1 b (vsD b j).length (asD b j).length 3) (nm b (kp2 b j) nbL).toNat (kp2 b j+1)).1⟩=true:=h2;rw[h]at h3;cases h3)
theorem ci0(b:List UInt8)(j:Int):j+1+(nm b j nvL-0)=L5 b j:=by unfold L5;omega
theorem ch9(b:List UInt8)(j:Int):nsD b viL (nm b j nvL-0).toNat (j+1)=vsD b j:=by unfold vsD;rw[Int.sub_zero]
theorem ch8(b:List UInt8)(j:Int):L5 b j+1+(nm b (L5 b j) naL-0)=kp2 b j:=by unfold kp2;omega
theorem ch7(b:List UInt8)(j:Int):nsD b aiL (nm b (L5 b j) naL-0).toNat (L5 b j+1)=asD b j:=by unfold asD;rw[Int.sub_zero]
abbrev aE1(b:List UInt8)(j:Int):=J6 (E1 b (vsD b j).length (asD b j).length 3) (nm b (kp2 b j) nbL).toNat (kp2 b j+1)
abbrev bt3(b:List UInt8)(j:Int):List It:=[.box [.ref 1,iA (R9 b j).snd],dY b,.row 3 (D.ints (O5 b j).vars),.row 3 (D.ints (O5 b j).arrays),.tree (D.stmts (O5 b j).body)]
abbrev X6:It:=.box [.v (.slice none 0 0),.v (.slice none 0 0),.v (.slice none 0 0)]
abbrev a94:It:=.box [.ref 4,.v (.slice none 0 0),.v (.slice none 0 0)]
abbrev bH3:It:=.tree (D.stmts [c5.mk 1 1 (c6.mk 0 0 []) (c6.mk 2 0 []) 0 [] []])
theorem aF9(b:List UInt8)(j:Int)(r0:0<=j)(r1:j<=10000000):j8.ok Tryz.prog (pgC b j):=by
  refine H9 52 Tryz.func86 [.box [.ref 1,iA j],dY b] [(0,.ptr 0 0)] fun G=>?_;have hnv:=ca2 b r0 al;have hk1:=bP0 b r0 r1;have hk2:=bx5 b r0 r1;have hna:=ca6 b (k:=L5 b j) al al;have hnb:=ci9 b (k:=kp2 b j) al al;have hvl:=bH9 b r0 r1;have hal:=bU6 b r0 r1;have hbd:=bz5 b r0 r1;have hbs:i9 (J6 (E1 b (vsD b j).length (asD b j).length 3) (nm b (kp2 b j) nbL).toNat (kp2 b j+1)).1<=1048576:=cx8 hbd.2.2 al;refine wp_seq (j9 G f8 [0,1,2] [.box [.ref 1,iA j],dY b,X6] [(0,.ptr 0 0),(2,.ptr 2 0)] fun G=>b6 (wp_seq (j9 G f8 [0,1,2,11] [.box [.ref 1,iA j],dY b,X6,X6] [(0,.ptr 0 0),(2,.ptr 2 0),(3,.ptr 3 0)] fun G=>b6 (wp_seq (wp_seq (j9 G (w6 2 [0,1,12] (j8.lend (T6 b j nvL (List.cons_ne_nil _ _) ai al) [.no,.no,.row 3])) (rg 4) [.box [.ref 1,iA (j+1)],dY b,X6,X6] [(0,.ptr 0 0),(2,.ptr 2 0),(3,.ptr 3 0),(4,iA (nm b j nvL))] fun G=>b6 (wp_block ?_)))))));have Gx:=G.nil 4 3 (.ints []) 1 [.box [.ref 1,iA (j+1)],dY b,X6,a94] [(0,.ptr 0 0),(2,.ptr 2 0),(3,.ptr 3 0),(4,iA (nm b j nvL))];clear G;obtain⟨ρ,G⟩:=Gx;replace G:=x7.at G [.box [.ref 1,iA (j+1)],dY b,X6,a94,.row 3 (D.ints [])] [(0,.ptr 0 0),(2,.ptr 2 0),(3,.ptr 3 0),(4,iA (nm b j nvL))];replace G:=G.as [.box [.ref 1,iA (j+1+(nm b j nvL-nm b j nvL))],dY b,.box [.v (.slice none 0 0),.v (.slice none 0 0),.v (.slice none 0 0)],.box [.ref 4,.v (.slice none 0 0),.v (.slice none 0 0)],.row 3 (D.ints (nsD b viL (nm b j nvL-nm b j nvL).toNat (j+1)))] [(0,.ptr 0 0),(2,.ptr 2 0),(3,.ptr 3 0),(4,iA (nm b j nvL))] (by have e1:(j+1+(nm b j nvL-nm b j nvL):Int)=(j+1):=al;have e2:(nsD b viL (nm b j nvL-nm b j nvL).toNat (j+1):List Int)=([]):=bw3;(first|rw[e1,e2]|simp only[e1,e2])<;>rfl) aj;refine x6 (κ:=Int) (fun i=>0<=i/\i<=nm b j nvL) (fun i=>i.toNat) (fun i=>[.box [.ref 1,iA (j+1+(nm b j nvL-i))],dY b,.box [.v (.slice none 0 0),.v (.slice none 0 0),.v (.slice none 0 0)],.box [.ref 4,.v (.slice none 0 0),.v (.slice none 0 0)],.row 3 (.ints (nsD b viL (nm b j nvL-i).toNat (j+1)))]) (fun i=>[(0,.ptr 0 0),(2,.ptr 2 0),(3,.ptr 3 0),(4,iA i)]) (nm b j nvL) al (x7.at G _ _) ?_;clear G;intro i ρ a w hp G;replace G:=x7.at G [.box [.ref 1,iA (j+1+(nm b j nvL-i))],dY b,X6,a94,.row 3 (D.ints (nsD b viL (nm b j nvL-i).toNat (j+1)))] [(0,.ptr 0 0),(2,.ptr 2 0),(3,.ptr 3 0),(4,iA i)];have hlen:(nsD b viL (nm b j nvL-i).toNat (j+1)).length=(nm b j nvL-i).toNat:=ap2 _ _ _ _;refine wp_seq (wp_seq (G3 G f8 [(0,.ptr 0 0),(2,.ptr 2 0),(3,.ptr 3 0),(4,iA i),(11,bA (decide (i>0)))] fun G=>b6 ?_));cases h0:(decide (i>0))
  ·
   have q0:=dFf h0
   obtain rfl:i=0:=al
   rw[ci0,ch9]at G;refine rF G false aj (wp_exit (v8 (v8 (v6 (b6 (wp_seq (wp_seq (j9 G (w6 2 [0,1,13] (j8.lend (T6 b (L5 b j) naL (by simp[h0]) al al) [.no,.no,.row 3])) (rg 5) [.box [.ref 1,iA (L5 b j+1)],dY b,X6,a94,.row 3 (D.ints (vsD b j))] [(0,.ptr 0 0),(2,.ptr 2 0),(3,.ptr 3 0),(5,iA (nm b (L5 b j) naL))] fun G=>b6 (wp_block ?_)))))))));have Gx:=G.nil 5 3 (.ints []) 1 [.box [.ref 1,iA (L5 b j+1)],dY b,X6,.box [.ref 4,.ref 5,.v (.slice none 0 0)],.row 3 (D.ints (vsD b j))] [(0,.ptr 0 0),(2,.ptr 2 0),(3,.ptr 3 0),(5,iA (nm b (L5 b j) naL))];clear G;obtain⟨ρ,G⟩:=Gx;replace G:=x7.at G [.box [.ref 1,iA (L5 b j+1)],dY b,X6,.box [.ref 4,.ref 5,.v (.slice none 0 0)],.row 3 (D.ints (vsD b j)),.row 3 (D.ints [])] [(0,.ptr 0 0),(2,.ptr 2 0),(3,.ptr 3 0),(5,iA (nm b (L5 b j) naL))];have Gx:=G.nilT 6 (.stmts []) [.box [.ref 1,iA (L5 b j+1)],dY b,X6,.box [.ref 4,.ref 5,.tref 6],.row 3 (D.ints (vsD b j)),.row 3 (D.ints [])] [(0,.ptr 0 0),(2,.ptr 2 0),(3,.ptr 3 0),(5,iA (nm b (L5 b j) naL))];clear G;obtain⟨ρ,G⟩:=Gx;replace G:=x7.at G [.box [.ref 1,iA (L5 b j+1)],dY b,X6,.box [.ref 4,.ref 5,.tref 6],.row 3 (D.ints (vsD b j)),.row 3 (D.ints []),.tree (D.stmts [])] [(0,.ptr 0 0),(2,.ptr 2 0),(3,.ptr 3 0),(5,iA (nm b (L5 b j) naL))];replace G:=G.as [.box [.ref 1,iA (L5 b j+1+(nm b (L5 b j) naL-nm b (L5 b j) naL))],dY b,.box [.v (.slice none 0 0),.v (.slice none 0 0),.v (.slice none 0 0)],.box [.ref 4,.ref 5,.tref 6],.row 3 (D.ints (vsD b j)),.row 3 (D.ints (nsD b aiL (nm b (L5 b j) naL-nm b (L5 b j) naL).toNat (L5 b j+1))),.tree (D.stmts [])] [(0,.ptr 0 0),(2,.ptr 2 0),(3,.ptr 3 0),(5,iA (nm b (L5 b j) naL))] (by have e1:(L5 b j+1+(nm b (L5 b j) naL-nm b (L5 b j) naL):Int)=(L5 b j+1):=al;have e2:(nsD b aiL (nm b (L5 b j) naL-nm b (L5 b j) naL).toNat (L5 b j+1):List Int)=([]):=bw3;(first|rw[e1,e2]|simp only[e1,e2])<;>rfl) aj;refine x6 (κ:=Int) (fun i2=>0<=i2/\i2<=nm b (L5 b j) naL) (fun i2=>i2.toNat) (fun i2=>[.box [.ref 1,iA (L5 b j+1+(nm b (L5 b j) naL-i2))],dY b,.box [.v (.slice none 0 0),.v (.slice none 0 0),.v (.slice none 0 0)],.box [.ref 4,.ref 5,.tref 6],.row 3 (D.ints (vsD b j)),.row 3 (.ints (nsD b aiL (nm b (L5 b j) naL-i2).toNat (L5 b j+1))),.tree (D.stmts [])]) (fun i2=>[(0,.ptr 0 0),(2,.ptr 2 0),(3,.ptr 3 0),(5,iA i2)]) (nm b (L5 b j) naL) al (x7.at G _ _) ?_;clear G;intro i2 ρ a w hp G;replace G:=x7.at G [.box [.ref 1,iA (L5 b j+1+(nm b (L5 b j) naL-i2))],dY b,X6,.box [.ref 4,.ref 5,.tref 6],.row 3 (D.ints (vsD b j)),.row 3 (D.ints (nsD b aiL (nm b (L5 b j) naL-i2).toNat (L5 b j+1))),.tree (D.stmts [])] [(0,.ptr 0 0),(2,.ptr 2 0),(3,.ptr 3 0),(5,iA i2)];have hlen:(nsD b aiL (nm b (L5 b j) naL-i2).toNat (L5 b j+1)).length=(nm b (L5 b j) naL-i2).toNat:=ap2 _ _ _ _;refine wp_seq (wp_seq (G3 G f8 [(0,.ptr 0 0),(2,.ptr 2 0),(3,.ptr 3 0),(5,iA i2),(26,bA (decide (i2>0)))] fun G=>b6 ?_));cases h1:(decide (i2>0))
   ·
    have q1:=dFf h1
    obtain rfl:i2=0:=al
    rw[ch8,ch7]at G;refine rF G false aj (wp_exit (v8 (v8 (v6 (b6 (wp_seq (ak3 G (I2 (v9 4 [0,1,31] (j8.lend (T6 b (kp2 b j) nbL (by simp[h0,h1]) al al) [.no,.no,.row 3]) (v9 5 [0,1,4,5,6] (j8.lend (cd4 b (vsD b j) (asD b j) ([]) (kp2 b j+1) 3 (nm b (kp2 b j) nbL) aj al al al al) [.no,.no,.row 3,.row 3,.tree]) I1)) fz []) [0,0,0,0,12,31,63,127] [0,1,2,3,4,5,47] [.box [.ref 1,iA (aE1 b j).snd],dY b,X6,.box [.ref 4,.ref 5,.tref 6],.row 3 (D.ints (vsD b j)),.row 3 (D.ints (asD b j)),.tree (D.stmts (aE1 b j).fst)] [(2,.ptr 2 0),(3,.ptr 3 0)] fun G=>b6 (wp_seq (wp_seq (l8 G (w6 1 [4,5,6] (j8.lend (aj9 (vsD b j) (asD b j) ((J6 (E1 b (vsD b j).length (asD b j).length 3) (nm b (kp2 b j) nbL).toNat (kp2 b j+1)).fst) ai) [.row 3,.row 3,.tree])) [(45,bA (m6 (f7.mk (vsD b j) (asD b j) (aE1 b j).fst)))] fun G=>b6 (rcB (b:=m6 (f7.mk (vsD b j) (asD b j) (J6 (E1 b (vsD b j).length (asD b j).length (3:Nat)) (nm b (kp2 b j) nbL).toNat (kp2 b j+1)).fst)) G (fun h2=>?_) fun h2=>?_)))))))))))
    · refine wp_skip (b6 (wp_seq (j9 G f8 [0,1,2,7,31] [.box [.ref 1,iA (aE1 b j).snd],dY b,.box [.ref 3,.v (.slice none 0 0),.tref 4],.row 3 (D.ints ([0]++([1]++[]))),bH3] [(2,.ptr 2 0)] fun G=>b6 (wp_ret ?_))));have Gx:=G.nil 5 3 (.ints []) 1 [.box [.ref 1,iA (aE1 b j).snd],dY b,.box [.ref 3,.ref 5,.tref 4],.row 3 (D.ints ([0]++([1]++[]))),bH3] [(2,.ptr 2 0)];clear G;obtain⟨ρ,G⟩:=Gx;replace G:=x7.at G [.box [.ref 1,iA (aE1 b j).snd],dY b,.box [.ref 3,.ref 5,.tref 4],.row 3 (D.ints ([0]++([1]++[]))),bH3,.row 3 (D.ints [])] [(2,.ptr 2 0)];exact O8 G [0,1,3,5,4] (by show _=mR [0,1,3,5,4] (bt3 b j);unfold bt3;rw[cs3 ab]<;>rfl)
    refine wp_seq (j9 G f8 [0,1,2,4,5,6] [.box [.ref 1,iA (aE1 b j).snd],dY b,.box [.ref 3,.ref 4,.tref 5],.row 3 (D.ints (vsD b j)),.row 3 (D.ints (asD b j)),.tree (D.stmts (aE1 b j).fst)] [(2,.ptr 2 0)] fun G=>b6 (wp_ret (l7 ?_)));exact O8 G [0,1,3,4,5] (by show _=mR [0,1,3,4,5] (bt3 b j);unfold bt3;rw[cs4 ab]<;>rfl)
   have q1:=dTt h1;refine rT G _ h1 (wp_skip (b6 (wp_seq (wp_block (S8 G (w6 4 [0,1,31] (j8.lend (T6 b (L5 b j+1+(nm b (L5 b j) naL-i2)) aiL (by simp[h0,h1]) al al) [.no,.no,.row 3])) [0,1,0,0,12,28,63,127,255] [0,1,2,3,4,6,55] [.box [.ref 1,iA (L5 b j+1+(nm b (L5 b j) naL-i2)+1)],dY b,X6,.box [.ref 4,.ref 6,.tref 5],.row 3 (D.ints (vsD b j)),.tree (D.stmts []),.row 3 (D.ints (nsD b aiL (nm b (L5 b j) naL-i2).toNat (L5 b j+1)++([nm b (L5 b j+1+(nm b (L5 b j) naL-i2)) aiL]++[])))] [(0,.ptr 0 0),(2,.ptr 2 0),(3,.ptr 3 0),(5,iA i2)] (aP ((nsD b aiL (nm b (L5 b j) naL-i2).toNat (L5 b j+1)).length+([nm b (L5 b j+1+(nm b (L5 b j) naL-i2)) aiL]++[]).length) 8 []) (aK (by simp only[cv9,cw2,cw6,ap2];omega) cx2) fun G=>p8 (b6 (P4 G f8 [(5,iA (i2-1))] [wO (i2-1)] (o1 al) fun G=>b6 ?_)))))));exact U5 G (i2-1) al al [0,1,2,3,4,6,5] (by have e1:(L5 b j+1+(nm b (L5 b j) naL-(i2-1)):Int)=(L5 b j+1+(nm b (L5 b j) naL-i2)+1):=al;have e2:(nsD b aiL (nm b (L5 b j) naL-(i2-1)).toNat (L5 b j+1):List Int)=(nsD b aiL (nm b (L5 b j) naL-i2).toNat (L5 b j+1)++([nm b (L5 b j+1+(nm b (L5 b j) naL-i2)) aiL]++[])):=(bw4 al al);(first|rw[e1,e2]|simp only[e1,e2])<;>rfl)
  have q0:=dTt h0;refine rT G _ h0 (wp_skip (b6 (wp_seq (wp_block (S8 G (w6 4 [0,1,29] (j8.lend (T6 b (j+1+(nm b j nvL-i)) viL (by simp[h0]) al al) [.no,.no,.row 3])) [0,1,0,0,12,28,63,127,255] [0,1,2,3,53] [.box [.ref 1,iA (j+1+(nm b j nvL-i)+1)],dY b,X6,a94,.row 3 (D.ints (nsD b viL (nm b j nvL-i).toNat (j+1)++([nm b (j+1+(nm b j nvL-i)) viL]++[])))] [(0,.ptr 0 0),(2,.ptr 2 0),(3,.ptr 3 0),(4,iA i)] (aP ((nsD b viL (nm b j nvL-i).toNat (j+1)).length+([nm b (j+1+(nm b j nvL-i)) viL]++[]).length) 8 []) (aK (by simp only[cv9,cw2,cw6,ap2];omega) cx2) fun G=>p8 (b6 (P4 G f8 [(4,iA (i-1))] [wO (i-1)] (o1 al) fun G=>b6 ?_)))))));exact U5 G (i-1) al al (rg 5) (by have e1:(j+1+(nm b j nvL-(i-1)):Int)=(j+1+(nm b j nvL-i)+1):=al;have e2:(nsD b viL (nm b j nvL-(i-1)).toNat (j+1):List Int)=(nsD b viL (nm b j nvL-i).toNat (j+1)++([nm b (j+1+(nm b j nvL-i)) viL]++[])):=(bw4 al al);(first|rw[e1,e2]|simp only[e1,e2])<;>rfl)
section
variable{b:List UInt8}{p:f7}{j:Int}
end
def ay1(k v r:Int):d8:=if k=3 then⟨4,r,v,r,0⟩else if k=11 then⟨7,r,r,r+1,r+2⟩else⟨6,r,k,r,r+1⟩
mutual
def d7:c6->Int->List d8
 |⟨k,v,ks⟩,r=>if k=1 then [⟨1,r,v,0,0⟩]else if k=2 then [⟨2,r,v,0,0⟩]else m0 ks r++[ay1 k v r]
def m0:List c6->Int->List d8
 |[],_=>[]
 |e::t,r=>d7 e r++m0 t (r+1)
end
theorem aq2(e:c6)(r:Int):d7 e r=if e.kind=1 then [⟨1,r,e.value,0,0⟩]else if e.kind=2 then [⟨2,r,e.value,0,0⟩]else m0 e.kids r++[ay1 e.kind e.value r]:=by cases e;rw[d7];rfl
theorem as5:∀(a b:List c6) (r:Int),m0 (a++b) r=m0 a r++m0 b (r+a.length)
 |[],b,r=>by simp[m0]
 |e::t,b,r=>by
  simp only[List.cons_append,m0,cA4]
  rw[as5 t b (r+1)]
  congr 2
  simp only[cw2]
  rw[show r+1+(t.length:Int)=r+((t.length+1:Nat):Int) by omega]
theorem aF7{ks:List c6}{k:Nat}{r:Int}(hk:k<ks.length):m0 (ks.take (k+1)) r=m0 (ks.take k) r++d7 (ks.getD k cv2) (r+k):=by
 rw[n6 _ _ hk,as5,n7 hk]
 simp[m0,List.length_take,Nat.min_eq_left (Nat.le_of_lt hk)]
mutual
theorem ab8:∀(e:c6) (r:Int),(d7 e r).length<=1+B9 e
 |⟨k,v,ks⟩,r=>by
  have h:=aj2 ks r
  rw[d7]
  simp only[B9]
  split
  ·simp
  split
  ·simp
  simp only[cv9,cw2,cw6];omega
theorem aj2:∀(ks:List c6) (r:Int),(m0 ks r).length<=F9 ks
 |[],_=>by simp[m0]
 |e::t,r=>by
  have h1:=ab8 e r
  have h2:=aj2 t (r+1)
  simp only[m0,F9,cv9];omega
end
abbrev P3:Type:=List d8×List Int×Int
def J3(x:P3)(n:Int)(c:List d8):P3:=(x.1++c,x.2.1++cv3 c.length n,x.2.2)
def bL2(l:List d8)(i:Nat)(n:Int):List d8:=l.set i ⟨(l.getD i cv2).op,(l.getD i cv2).a,n,(l.getD i cv2).c,(l.getD i cv2).d⟩
def b88(l:List d8)(i:Nat)(n:Int):List d8:=l.set i ⟨(l.getD i cv2).op,n,(l.getD i cv2).b,(l.getD i cv2).c,(l.getD i cv2).d⟩
mutual
def U7:c5->Int->P3->P3
 | ⟨k, t, i, v, c, b, e⟩, d, x =>
  if k=4 then J3 (r8 b (d+1) (J3 (x.1,x.2.1,x.2.2+1) x.2.2 [⟨1,9+d,c,0,0⟩])) x.2.2 [⟨10,9+d,((x.1.length+1:Nat):Int),0,0⟩]
  else if k=1 then J3 (J3 (x.1,x.2.1,x.2.2+1) x.2.2 (d7 v 0)) x.2.2 [⟨3,t,0,0,0⟩]
  else if k=5 then J3 (J3 (J3 (x.1,x.2.1,x.2.2+1) x.2.2 (d7 v 0)) x.2.2 [⟨11,0,0,0,0⟩]) x.2.2 [⟨3,t,0,0,0⟩]
  else if k=2 then J3 (J3 (J3 (x.1,x.2.1,x.2.2+1) x.2.2 (d7 v 0)) x.2.2 (d7 i 1)) x.2.2 [⟨5,t,1,0,0⟩]
  else
   (fun(y:P3)=>
    (fun(z:P3)=>
     (fun(u:P3)=>(b88 u.1 (z.1.length-1) (u.1.length:Int),u.2)) (r8 e (d+1) (bL2 z.1 y.1.length (z.1.length:Int),z.2)))
    (J3 (r8 b (d+1) (J3 y x.2.2 [⟨9,0,0,0,0⟩])) x.2.2 [⟨8,0,0,0,0⟩]))
   (J3 (x.1,x.2.1,x.2.2+1) x.2.2 (d7 v 0))
def r8:List c5->Int->P3->P3
 |[],_,x=>x
 |s::r,d,x=>r8 r d (U7 s d x)
end
theorem bq0(a b:List c5)(d:Int)(x:P3):r8 (a++b) d x=r8 b d (r8 a d x):=by
 induction a generalizing x with
 |nil=>rfl
 |cons s r ih=>simp only[List.cons_append,r8];exact ih _
theorem aS3{ss:List c5}{k:Nat}{d:Int}{x:P3}(hk:k<ss.length):r8 (ss.take (k+1)) d x=U7 (ss.getD k cv2) d (r8 (ss.take k) d x):=by
 rw[n6 _ _ hk,bq0,n7 hk]
 simp[r8]
mutual
def bE7:c5->Nat
 |⟨k,_,i,v,_,b,e⟩=>if k=4 then 2+aV2 b else if k=1 then(d7 v 0).length+1 else if k=5 then(d7 v 0).length+2 else if k=2 then(d7 v 0).length+(d7 i 1).length+1 else(d7 v 0).length+2+aV2 b+aV2 e
def aV2:List c5->Nat
 |[]=>0
 |s::r=>bE7 s+aV2 r
end
mutual
theorem b14:∀(s:c5) (d:Int) (x:P3),(U7 s d x).1.length=x.1.length+bE7 s/\(U7 s d x).2.1.length=x.2.1.length+bE7 s
 | ⟨k, t, i, v, c, b, e⟩, d, x => by
  rw[U7,bE7]
  split
  ·have h:=P1 b (d+1) (J3 (x.1,x.2.1,x.2.2+1) x.2.2 [⟨1,9+d,c,0,0⟩])
   simp only[J3,cv9,cw2,cw6,cx5]at h ⊢
   omega
  split
  ·simp only[J3,cv9,cw2,cw6,cx5];omega
  split
  ·simp only[J3,cv9,cw2,cw6,cx5];omega
  split
  ·simp only[J3,cv9,cw2,cw6,cx5];omega
  simp only
  generalize hy:J3 (x.1,x.2.1,x.2.2+1) x.2.2 (d7 v 0)=y
  have hy1:y.1.length=x.1.length+(d7 v 0).length:=by rw[<-hy];simp[J3]
  have hy2:y.2.1.length=x.2.1.length+(d7 v 0).length:=by rw[<-hy];simp[J3]
  have h1:=P1 b (d+1) (J3 y x.2.2 [⟨9,0,0,0,0⟩])
  generalize r8 b (d+1) (J3 y x.2.2 [⟨9,0,0,0,0⟩])=z at h1 ⊢
  have h2:=P1 e (d+1) (bL2 (J3 z x.2.2 [⟨8,0,0,0,0⟩]).1 y.1.length ((J3 z x.2.2 [⟨8,0,0,0,0⟩]).1.length:Int),(J3 z x.2.2 [⟨8,0,0,0,0⟩]).2)
  simp only[J3,b88,bL2,cy3,cv9,cw2,cw6,cx5]at h1 h2 ⊢
  omega
theorem P1:∀(ss:List c5) (d:Int) (x:P3),(r8 ss d x).1.length=x.1.length+aV2 ss/\(r8 ss d x).2.1.length=x.2.1.length+aV2 ss
 |[],_,_=>⟨rfl,rfl⟩
 |s::r,d,x=>by
  have h1:=b14 s d x
  have h2:=P1 r d (U7 s d x)
  rw[r8,aV2]
  omega
end
mutual
theorem b12:∀s:c5,bE7 s<=4+4*M8 s
 |⟨k,t,i,v,c,b,e⟩=>by
  have h1:=ab8 v 0
  have h2:=ab8 i 1
  have h3:=T5 b
  have h4:=T5 e
  rw[bE7]
  simp only[M8]
  (repeat' split)<;>omega
theorem T5:∀ss:List c5,aV2 ss<=4*i9 ss
 |[]=>cy4 _
 |s::r=>by
  have h1:=b12 s
  have h2:=T5 r
  simp only[aV2,i9];omega
end
section
variable{P:Program}{ι κ:Type}{φ ψ:Nat->Prop}{w0 w:World}{F:ι->Rs}{ρ ρ0:Nat->Value}{N m n:Nat}{S:List It}{tm:List (Nat×AV)}{a:Act}
def aY6(n:Nat):List Ln:=cv3 n .no++[.tree]
theorem bd1(n i:Nat):A7 (aY6 n) i=if i=n then .tree else .no:=by
 unfold A7 aY6
 rw[cv8]
 rcases Nat.lt_trichotomy i n with h|h|h
 ·rw[cw8 (by simpa using h),if_neg al]
  simp[cz3,h]
 ·subst h;simp
 rw[cy1 ah,if_neg al];rfl
theorem j8.datPost{f:FuncId}{args:List AV}{S0 S:List It}{d:D}{res:AV}(hc:j8.ok P ⟨f,args,S0,S++[.tree d],res⟩)(res1:AV)(hr:res=res1.tr (aY6 S.length):=by kernel_rfl)(hk:(decide (S0.length<=S.length)&&(res1.trOk (aY6 S.length)&&S.all fun x=>x.ids.isEmpty))=true:=by kernel_rfl):j8.ok P ⟨f,args,S0,S++[.dat d],res1⟩:=by
 simp only[cv4,decide_eq_true_eq]at hk
 obtain⟨hl0,hk⟩:=hk
 subst hr
 intro ι φ ψ w0 w F ρ M
 refine(hc ι φ ψ w0 w F ρ M).mono ?_
 rintro x w' ⟨ρ',h1,rfl,M2⟩
 let ρ1:Nat->Value:=fun i=>if(A7 (aY6 S.length) i).isT then F5 (ρ' i)else ρ' i
 have hρ1:∀i,ρ1 i=if(A7 (aY6 S.length) i).isT then F5 (ρ' i)else ρ' i:=fun _=>rfl
 have hne:∀i,i≠S.length->ρ1 i=ρ' i:=fun i hi=>by rw[hρ1,bd1,if_neg hi];rfl
 have heq:ρ1 S.length=F5 (ρ' S.length):=by rw[hρ1,bd1,if_pos rfl];rfl
 refine⟨ρ1,fun i hi=>by rw[hne i (by simp only at hi;omega)];exact h1 i hi,by rw[AV.val_tr hρ1 res1 hk.1],?_⟩
 refine M2.release fun k=>?_
 cases k with
 |inl i=>exact .inl rfl
 | inr j =>
  simp only[r7]
  rcases Nat.lt_trichotomy j S.length with hj|hj|hj
  ·have e1:t6 (S++[.dat d]) j=t6 S j:=by simp[t6,cv8,cw8 hj]
   have e2:t6 (S++[.tree d]) j=t6 S j:=by simp[t6,cv8,cw8 hj]
   rw[e1,e2]
   left
   have h2:(t6 S j).ids=[]:=by
    have h3:=cw3.1 hk.2 _ (cx9 hj)
    rw[an1 hj]
    simpa using h3
   exact It.res_congr _ (fun i hi=>by rw[h2]at hi;cases hi) (.inr (.inr (hne j al)))
  ·subst hj
   have e1:t6 (S++[.dat d]) S.length=.dat d:=by simp[t6,cv8]
   have e2:t6 (S++[.tree d]) S.length=.tree d:=by simp[t6,cv8]
   rw[e1,e2]
   refine .inr ⟨fun b hb=>hb,fun φ' hf hown=>⟨RD.nice _ _,?_⟩⟩
   have hh:=M2.holds (.inr S.length)
   simp only[r7]at hh
   rw[e2]at hh
   rw[heq]
   exact F7.read hh.2.1 fun b hb=>hown b (by rw[show(It.tree d).res ρ' S.length=Rs.own (E3 (ρ' S.length)) _ from rfl];exact hb)
  rw[A6 ah,A6 ah];exact .inl rfl
theorem It.res_ren'{σ:Nat->Nat}{i j:Nat}{ρ:Nat->Value}(x:It)(h:σ i=j):(x.ren σ).res ρ j=x.res (fun i=>ρ (σ i)) i:=by
 subst h;exact It.res_ren x
def mv(i n j:Nat):Nat:=if natEq j i then n else j
theorem aP0{f:AV->AV}{t:Nat}{y:AV}:∀{tm:List (Nat×AV)},C2 (tm.map fun p=>(p.1,f p.2)) t=some y->∃x,C2 tm t=some x/\y=f x
 |[],h=>by cases h
 |(k,z)::r,h=>by
  simp only[C2,cy8]at h ⊢
  split at h
  ·rename_i hk;cases h;exact⟨z,by rw[if_pos hk],rfl⟩
  rename_i hk
  obtain⟨x,h1,h2⟩:=aP0 h
  exact⟨x,by rw[if_neg hk];exact h1,h2⟩
theorem cb5{i n:Nat}{x:AV}:∀j∈(x.ren (mv i n)).ids,(∃k∈x.ids,mv i n k=j):=by
 have key:(∀x:AV,∀j∈(x.ren (mv i n)).ids,∃k∈x.ids,mv i n k=j)/\(∀l:List AV,∀j∈AV.idsL (AV.renL (mv i n) l),∃k∈AV.idsL l,mv i n k=j):=by
  have hL:∀(l:List AV),(∀x∈l,∀j∈(x.ren (mv i n)).ids,∃k∈x.ids,mv i n k=j)->∀j∈AV.idsL (AV.renL (mv i n) l),∃k∈AV.idsL l,mv i n k=j:=by
   intro l
   induction l with
   |nil=>intro _ j hj;cases hj
   | cons y r ih =>
    intro h j hj
    simp only[AV.renL,AV.idsL,cx6]at hj ⊢
    rcases hj with hj|hj
    ·obtain⟨k,h1,h2⟩:=h y cz6 j hj
     exact⟨k,.inl h1,h2⟩
    obtain⟨k,h1,h2⟩:=ih (fun x hx=>h x (cz4 _ hx)) j hj
    exact⟨k,.inr h1,h2⟩
  have hx:∀x:AV,∀j∈(x.ren (mv i n)).ids,∃k∈x.ids,mv i n k=j:=fun x=>goX hL x
  exact⟨hx,fun l=>hL l fun x _=>hx x⟩
 exact key.1 x
where
 goX {i n:Nat} (hL:∀(l:List AV),(∀x∈l,∀j∈(x.ren (mv i n)).ids,∃k∈x.ids,mv i n k=j)->∀j∈AV.idsL (AV.renL (mv i n) l),∃k∈AV.idsL l,mv i n k=j):∀x:AV,∀j∈(x.ren (mv i n)).ids,∃k∈x.ids,mv i n k=j
  |.v _,j,hj=>by cases hj
  |.ptr a b,j,hj=>⟨a,cy5.2 rfl,(cy5.1 hj).symm⟩
  |.ea a b c d,j,hj=>⟨a,cy5.2 rfl,(cy5.1 hj).symm⟩
  |.ref a,j,hj=>⟨a,cy5.2 rfl,(cy5.1 hj).symm⟩
  |.tref a,j,hj=>⟨a,cy5.2 rfl,(cy5.1 hj).symm⟩
  |.agg l,j,hj=>hL l (fun x _=>goX hL x) j hj
  |.tup l,j,hj=>hL l (fun x _=>goX hL x) j hj
  |.fn _ l,j,hj=>hL l (fun x _=>goX hL x) j hj
  |.bm _ l,j,hj=>hL l (fun x _=>goX hL x) j hj
theorem x7.shift(G:x7 φ ψ w0 F N m ρ0 ρ S tm a w)(i n:Nat)(S1:List It)(tm1:List (Nat×AV))(hn:(natEq S.length n&&decide (i<n))=true:=by kernel_rfl)(hS:S1=(S.map (It.ren (mv i n))).set i .dead++[(t6 S i).ren (mv i n)]:=by kernel_rfl)(ht:tm1=tm.map (fun p=>(p.1,p.2.ren (mv i n))):=by kernel_rfl):
  ∃ρ',x7 φ ψ w0 F N m ρ0 ρ' S1 tm1 a w:=by
 subst hS
 subst ht
 simp only[cv4,natEq,beq_iff_eq,decide_eq_true_eq]at hn
 obtain⟨hn,hin⟩:=hn
 have hlen:((S.map (It.ren (mv i n))).set i .dead++[(t6 S i).ren (mv i n)]).length=n+1:=by simp[hn]
 have hat:∀j,t6 ((S.map (It.ren (mv i n))).set i .dead++[(t6 S i).ren (mv i n)]) j=if j=n then(t6 S i).ren (mv i n)else if j=i then .dead else(t6 S j).ren (mv i n):=fun j=>by
  by_cases e:j=n
  ·subst e
   rw[if_pos rfl]
   simp only[t6,cv8]
   rw[cy7 (by simp[hn])]
   simp[hn]
  rw[if_neg e]
  by_cases e2:j=i
  ·subst e2
   rw[if_pos rfl]
   simp only[t6,cv8]
   rw[cw8 ah]
   simp[show j<S.length by omega]
  rw[if_neg e2]
  simp only[t6,cv8]
  rcases cx7 j n with h|h
  ·rw[cw8 ah,List.getElem?_set_ne (fun h=>e2 h.symm),List.getElem?_map,cv6 al]
   rfl
  rw[cy1 ah,cy1 al];rfl
 have hbd:∀x:AV,(∀j∈x.ids,j<n)->∀j∈(x.ren (mv i n)).ids,j<n+1:=fun x h j hj=>by
  obtain⟨k,h1,h2⟩:=cb5 j hj
  have:=h k h1
  rw[<-h2];unfold mv
  split<;>omega
 let ρ1:Nat->Value:=fun j=>if j=n then ρ i else ρ j
 have hmv:∀j,j<n->ρ1 (mv i n j)=ρ j:=fun j hj=>by
  show(if mv i n j=n then ρ i else ρ (mv i n j))=ρ j
  by_cases e:j=i
  ·subst e;simp[mv,natEq]
  have h:mv i n j=j:=by simp[mv,natEq,e]
  rw[h,if_neg al]
 have hval:∀x:AV,(∀j∈x.ids,j<n)->(x.ren (mv i n)).val ρ1=x.val ρ:=fun x h=>by
  rw[AV.val_ren]
  exact AV.val_congr x fun j hj=>hmv j (h j hj)
 have hids:∀j,∀q∈(t6 S j).ids,q<n:=fun j q hq=>by have:=(G.bd j).1 q hq;omega
 have hitem:∀j,∀q∈((t6 S j).ren (mv i n)).ids,q<n+1:=fun j q hq=>by
  cases hx:t6 S j with
  |box cs=>
   rw[hx]at hq
   have h1:=hids j
   rw[hx]at h1
   exact hbd (.agg cs) h1 q hq
  |hole k d ls=>
   rw[hx]at hq
   have h1:=hids j
   rw[hx]at h1
   exact hbd (.ref k) h1 q hq
  |_=>rw[hx]at hq;cases hq
 refine⟨ρ1,G.size,G.defs,fun t y hy=>?_,fun t y hy j hj=>?_,fun j=>⟨fun q hq=>?_,fun hj=>A6 hj⟩,?_,?_,fun j hj=>?_⟩
 ·obtain⟨x,h1,rfl⟩:=aP0 hy
  rw[G.tmv t x h1,hval x fun j hj=>by have:=G.tmi t x h1 j hj;omega]
 ·obtain⟨x,h1,rfl⟩:=aP0 hy
  rw[hlen]
  exact hbd x (fun j hj=>by have:=G.tmi t x h1 j hj;omega) j hj
 ·rw[hlen]
  rw[hat]at hq
  split at hq
  ·exact hitem i q hq
  split at hq
  ·cases hq
  exact hitem j q hq
 ·refine G.mem.map (fun k:ι ⊕ Nat=>(match k with|.inl q=>some (.inl q)|.inr j=>if j=n then some (.inr i)else if j=i then none else some (.inr j):Option (ι ⊕ Nat))) ?_ ?_
  ·intro k k' x h1 h2
   match k,k' with
   |.inl q,.inl q'=>simp at h1 h2;rw[<-h1]at h2;simpa using h2.symm
   |.inl q,.inr j=>simp at h1;subst h1;simp at h2;split at h2<;>simp at h2
   |.inr j,.inl q=>simp at h2;subst h2;simp at h1;split at h1<;>simp at h1
   | .inr j, .inr j' =>
    simp only at h1 h2
    by_cases e1:j=n<;>by_cases e2:j'=n
    ·rw[e1,e2]
    ·rw[if_pos e1]at h1
     rw[if_neg e2]at h2
     by_cases e3:j'=i
     ·rw[if_pos e3]at h2;cases h2
     rw[if_neg e3]at h2
     simp at h1 h2
     rw[<-h1]at h2
     exact absurd (Sum.inr.inj h2) e3
    ·rw[if_pos e2]at h2
     rw[if_neg e1]at h1
     by_cases e3:j=i
     ·rw[if_pos e3]at h1;cases h1
     rw[if_neg e3]at h1
     simp at h1 h2
     rw[<-h2]at h1
     exact absurd (Sum.inr.inj h1) e3
    rw[if_neg e1]at h1
    rw[if_neg e2]at h2
    by_cases e3:j=i
    ·rw[if_pos e3]at h1;cases h1
    by_cases e4:j'=i
    ·rw[if_pos e4]at h2;cases h2
    rw[if_neg e3]at h1
    rw[if_neg e4]at h2
    simp at h1 h2
    rw[<-h1]at h2
    rw[Sum.inr.inj h2]
  intro k
  match k with
  |.inl q=>exact .inl ⟨_,rfl,rfl⟩
  | .inr j =>
   by_cases e:j=n
   ·refine .inl ⟨.inr i,by simp[e],?_⟩
    simp only[r7]
    rw[hat,if_pos e]
    subst e
    have h1:mv i j i=j:=by simp[mv,natEq]
    rw[It.res_ren' (t6 S i) h1]
    exact It.res_congr _ (fun q hq=>hmv q (hids i q hq)) (.inr (.inr (hmv i hin)))
   by_cases e2:j=i
   ·refine .inr ?_
    simp only[r7]
    rw[hat,if_neg e,if_pos e2]
    rfl
   refine .inl ⟨.inr j,by simp[e,e2],?_⟩
   simp only[r7]
   rw[hat,if_neg e,if_neg e2]
   rcases cx7 j n with hj|hj
   ·have h1:mv i n j=j:=by simp[mv,natEq,e2]
    rw[It.res_ren' (t6 S j) h1]
    exact It.res_congr _ (fun q hq=>hmv q (hids j q hq)) (.inr (.inr (hmv j hj)))
   rw[A6 al];rfl
 ·have:=G.le;rw[hlen];omega
 have:=G.le
 show(if j=n then ρ i else ρ j)=ρ0 j
 rw[if_neg al];exact G.old j hj
end
abbrev rN(l:List d8):It:=.row 76 (.instrs l)
abbrev rI(l:List Int):It:=.row 3 (.ints l)
theorem I3(l:List d8)(fr:List Int)(at0 n o x y z u:Int)(h1:l.length<=8000000)(h2:fr.length<=8000000):j8.ok Tryz.prog ⟨146,[.agg [.ref 0,.ref 1,iA at0],iA n,.agg [iA o,iA x,iA y,iA z,iA u]],[rN l,rI fr],[.dead,.dead,rN (l++[⟨o,x,y,z,u⟩]),rI (fr++[n])],.agg [.ref 2,.ref 3,iA at0]⟩:=by
 refine H9 20 Tryz.func146 [.row 76 (D.instrs l),.row 3 (D.ints fr)] [(0,.agg [.ref 0,.ref 1,iA at0]),(1,iA n),(2,.agg [iA o,iA x,iA y,iA z,iA u])] fun G=>?_;refine wp_seq (j9 G f8 [0,1,2,10,18] [.row 76 (D.instrs l),.row 3 (D.ints fr),.box [.ref 0,.ref 1,iA at0],.box [iA o,iA x,iA y,iA z,iA u],.box [.v (.slice none 0 0),.v (.slice none 0 0),iA 0]] [(1,iA n),(3,.ptr 2 0),(5,.ptr 3 0),(6,.ptr 4 0)] fun G=>b6 (wp_seq (rA1 G f8 [0,1,2,4,37] [.dead,.row 3 (D.ints fr),.box [.ref 4,.ref 1,iA at0],.box [.v (.slice none 0 0),.v (.slice none 0 0),iA 0],.row 76 (D.instrs (l++([d8.mk o x y z u]++[])))] [(1,iA n),(3,.ptr 2 0),(6,.ptr 3 0)] (aP (l.length+1) 40 []) (aK al cx2) fun G=>b6 (wp_seq (rA1 G f8 [0,1,2,3,4,37] [.dead,.dead,.box [.ref 4,.ref 5,iA at0],.box [.v (.slice none 0 0),.v (.slice none 0 0),iA 0],.row 76 (D.instrs (l++([d8.mk o x y z u]++[]))),.row 3 (D.ints (fr++([n]++[])))] [(3,.ptr 2 0),(6,.ptr 3 0)] (aP (fr.length+1) 8 []) (aK al cx2) fun G=>b6 (wp_seq (j9 G f8 [0,1,3,4,5] [.dead,.dead,.box [.ref 3,.ref 4,iA at0],.row 76 (D.instrs (l++([d8.mk o x y z u]++[]))),.row 3 (D.ints (fr++([n]++[])))] [(6,.ptr 2 0)] fun G=>b6 (wp_ret ?_))))))));exact O8 G [0,1,3,4]
abbrev l7C(l:List d8)(fr:List Int)(at0 n:Int)(e:c6)(reg:Int):j8:=⟨195,[.agg [.ref 0,.ref 1,iA at0],iA n,eA e 2,iA reg],[rN l,rI fr,dE e.kids],[.dead,.dead,dE e.kids,rN (l++d7 e reg),rI (fr++cv3 (d7 e reg).length n)],.agg [.ref 3,.ref 4,iA at0]⟩
theorem ce1{e:c6}{r:Int}(k:e.kind=1):d7 e r=[⟨1,r,e.value,0,0⟩]:=by rw[aq2,if_pos k]
theorem ce2{e:c6}{r:Int}(k:e.kind=2):d7 e r=[⟨2,r,e.value,0,0⟩]:=by rw[aq2,if_neg al,if_pos k]
theorem ao9(ks:List c6)(k:Nat):F9 (ks.take k)<=F9 ks/\(k<ks.length->F9 (ks.take k)+1+B9 (ks.getD k cv2)<=F9 ks)/\(ks.take k).length<=F9 (ks.take k):=by
 refine⟨?_,fun h=>?_,aw2 _⟩
 ·have:=ae2 (ks.take k) (ks.drop k)
  rw[List.take_append_drop]at this
  omega
 have h1:=ae2 (ks.take (k+1)) (ks.drop (k+1))
 rw[List.take_append_drop,n6 _ _ h,ae2, <-n7 (d:=cv2) h]at h1
 simp only[F9]at h1
 omega
section
variable{e:c6}{l:List d8}{fr:List Int}{n reg:Int}{k:Nat}
theorem a26(e:c6):B9 e=F9 e.kids:=by cases e;rfl
theorem cc9(h0:0<=reg)(h1:reg+B9 e<=2000000)(hk:k<e.kids.length):0<=reg+(k:Int)/\reg+(k:Int)+B9 (e.kids.getD k cv2)<=2000000:=by
 have h2:=(ao9 e.kids k).2.1 hk
 have h3:=(ao9 e.kids k).2.2
 rw[List.length_take]at h3
 rw[a26]at h1
 omega
theorem cd0(h2:l.length+B9 e<=5000000)(hk:k<e.kids.length):(l++m0 (e.kids.take k) reg).length+B9 (e.kids.getD k cv2)<=5000000:=by
 have h3:=(ao9 e.kids k).2.1 hk
 have h4:=aj2 (e.kids.take k) reg
 rw[a26]at h2
 rw[cv9]
 omega
theorem aD1(h2:l.length+B9 e<=5000000):(l++m0 (e.kids.take k) reg).length<=5000000:=by
 have h3:=(ao9 e.kids k).1
 have h4:=aj2 (e.kids.take k) reg
 rw[a26]at h2
 rw[cv9]
 omega
theorem aS5(h3:fr.length=l.length):(fr++cv3 (m0 (e.kids.take k) reg).length n).length=(l++m0 (e.kids.take k) reg).length:=by simp[h3]
theorem b16(hk:k<e.kids.length):l++m0 (e.kids.take (k+1)) reg=l++m0 (e.kids.take k) reg++d7 (e.kids.getD k cv2) (reg+(k:Int)):=by rw[aF7 hk,cA4]
theorem bS9(hk:k<e.kids.length):fr++cv3 (m0 (e.kids.take (k+1)) reg).length n=fr++cv3 (m0 (e.kids.take k) reg).length n++cv3 (d7 (e.kids.getD k cv2) (reg+(k:Int))).length n:=by
 rw[aF7 hk,cv9,cA4,List.replicate_append_replicate]
theorem bS8:l=l++m0 (e.kids.take 0) reg:=by simp[m0]
theorem bE9:fr=fr++cv3 (m0 (e.kids.take 0) reg).length n:=by simp[m0]
theorem bq2(k1:¬e.kind=1)(k2:¬e.kind=2)(hk:e.kids.length<=k){x:d8}(hx:ay1 e.kind e.value reg=x):l++d7 e reg=l++m0 (e.kids.take k) reg++[x]:=by
 rw[aq2,if_neg k1,if_neg k2,cw7 hk,hx,cA4]
theorem a81(k1:¬e.kind=1)(k2:¬e.kind=2)(hk:e.kids.length<=k):fr++cv3 (d7 e reg).length n=fr++cv3 (m0 (e.kids.take k) reg).length n++[n]:=by
 rw[aq2,if_neg k1,if_neg k2,cw7 hk,cA4,cv9,cw2,cw6,List.replicate_succ']
theorem la3(k:e.kind=3):ay1 e.kind e.value reg=⟨4,reg,e.value,reg,0⟩:=by rw[ay1,if_pos k]
theorem ct8(k:e.kind=11):ay1 e.kind e.value reg=⟨7,reg,reg,reg+1,reg+2⟩:=by rw[ay1,if_neg al,if_pos k]
theorem la0(k3:¬e.kind=3)(k:¬e.kind=11):ay1 e.kind e.value reg=⟨6,reg,e.kind,reg,reg+1⟩:=by rw[ay1,if_neg k3,if_neg k]
end
abbrev ae9(e:c6)(l:List d8)(fr:List Int)(n:Int)(reg:Int):List It:=[.dead,.dead,dE e.kids,.row 76 (D.instrs (l++d7 e reg)),.row 3 (D.ints (fr++cv3 (d7 e reg).length n))]
abbrev ab9(n:Int)(reg:Int)(r0:List (Nat×AV)):List (Nat×AV):=(1,iA n)::(3,iA reg)::(4,.ptr 3 0)::(6,.ptr 4 0)::(8,.ptr 5 0)::r0
abbrev a09(e:c6)(at0:Int)(r0:List It):List It:=.dead::.dead::dE e.kids::.box [.ref 6,.ref 7,iA at0]::.box (eL e 2)::.box [.v (.slice none 0 0),.v (.slice none 0 0),iA 0]::r0
theorem bJ8(e:c6)(ih:∀(u:c6),u∈e.kids->∀(l:List d8) (fr:List Int) (at0 n reg:Int),0<=reg->reg+B9 u<=2000000->l.length+B9 u<=5000000->fr.length=l.length->j8.ok Tryz.prog (l7C l fr at0 n u reg))(l:List d8)(fr:List Int)(at0 n reg:Int)(r0:0<=reg)(r1:reg+B9 e<=2000000)(r2:l.length+B9 e<=5000000)(r3:fr.length=l.length):j8.ok Tryz.prog (l7C l fr at0 n e reg):=by
  refine H9 82 Tryz.func195 [.row 76 (D.instrs l),.row 3 (D.ints fr),dE e.kids] [(0,.agg [.ref 0,.ref 1,iA at0]),(1,iA n),(2,eA e 2),(3,iA reg)] fun G=>?_
  have hlen:e.kids.length<=B9 e:=by cases e;exact aw2 _
  refine wp_seq (j9 G f8 [0,1,2,3,11,19] [.row 76 (D.instrs l),.row 3 (D.ints fr),dE e.kids,.box [.ref 0,.ref 1,iA at0],.box (eL e 2),.box [.v (.slice none 0 0),.v (.slice none 0 0),iA 0]] (ab9 n reg []) fun G=>b6 (wp_seq (wp_seq (l8 G f8 [(11,iA e.kind)] fun G=>b6 (wp_block (wp_seq (l8 G f8 [(12,bA (e.kind==1))] fun G=>b6 (S4 G (fun h0 q0=>?_) fun h0 q0=>?_))))))))
  ·
   refine wp_seq (l8 G f8 [(21,bA (e.kind==2))] fun G=>b6 (S4 G (fun h1 q1=>?_) fun h1 q1=>?_))
   ·
    refine wp_skip (p8 (b6 (wp_seq (wp_seq (G3 G f8 (ab9 n reg [(9,iA 0)]) fun G=>b6 (wp_block ?_))))));obtain⟨ρ,G⟩:=G.shift 0 6 [.dead,.row 3 (D.ints fr),dE e.kids,.box [.ref 6,.ref 1,iA at0],.box (eL e 2),.box [.v (.slice none 0 0),.v (.slice none 0 0),iA 0],.row 76 (D.instrs l)] (ab9 n reg [(9,iA 0)]);obtain⟨ρ,G⟩:=G.shift 1 7 (a09 e at0 [.row 76 (D.instrs l),.row 3 (D.ints fr)]) (ab9 n reg [(9,iA 0)]);replace G:=G.as (a09 e at0 [.row 76 (D.instrs (l++m0 (cw1 0 e.kids) reg)),.row 3 (D.ints (fr++cv3 (m0 (cw1 0 e.kids) reg).length n))]) (ab9 n reg [(9,iA 0)]) (by have e1:(l++m0 (cw1 0 e.kids) reg:List d8)=(l):=bS8.symm;have e2:(fr++cv3 (m0 (cw1 0 e.kids) reg).length n:List Int)=(fr):=bE9.symm;(first|rw[e1,e2]|simp only[e1,e2])<;>rfl) aj;refine x6 (κ:=Nat) (fun k=>k<=e.kids.length) (fun k=>e.kids.length-k) (fun k=>[.dead,.dead,dE e.kids,.box [.ref 6,.ref 7,iA at0],.box (eL e 2),.box [.v (.slice none 0 0),.v (.slice none 0 0),iA 0],.row 76 (.instrs (l++m0 (e.kids.take k) reg)),.row 3 (.ints (fr++cv3 (m0 (e.kids.take k) reg).length n))]) (fun k=>[(1,iA n),(3,iA reg),(4,.ptr 3 0),(6,.ptr 4 0),(8,.ptr 5 0),(9,iA k)]) 0 al (x7.at G _ _) ?_;clear G;intro k ρ a w hp G;replace G:=x7.at G (a09 e at0 [.row 76 (D.instrs (l++m0 (cw1 k e.kids) reg)),.row 3 (D.ints (fr++cv3 (m0 (cw1 k e.kids) reg).length n))]) (ab9 n reg [(9,iA k)]);refine wp_seq (wp_seq (l8 G f8 [(34,bA (decide ((k:Int)<e.kids.length)))] fun G=>b6 (rcD G (fun h2 q2=>?_) fun h2 q2=>?_)))
    ·
     refine wp_exit (v8 (v8 (v6 (b6 (wp_seq (wp_seq (l8 G f8 [(49,iA e.kind)] fun G=>b6 (wp_block (wp_seq (l8 G f8 [(50,bA (e.kind==3))] fun G=>b6 (S4 G (fun h3 q3=>?_) fun h3 q3=>?_)))))))))))
     ·
      refine wp_seq (l8 G f8 [(60,bA (e.kind==11))] fun G=>b6 (S4 G (fun h4 q4=>?_) fun h4 q4=>?_))
      · refine wp_skip (p8 (b6 (wp_seq (rA1 G (w6 9 [6,7] (I3 (l++m0 (cw1 k e.kids) reg) (fr++cv3 (m0 (cw1 k e.kids) reg).length n) at0 n 6 reg e.kind reg (reg+1) (by have:=aD1 (k:=k) (reg:=reg) r2;have:=aS5 (e:=e) (n:=n) (k:=k) (reg:=reg) r3;omega) (by have:=aD1 (k:=k) (reg:=reg) r2;have:=aS5 (e:=e) (n:=n) (k:=k) (reg:=reg) r3;omega))) [0,1,2,5,80,81] [.dead,.dead,dE e.kids,.box [.ref 4,.ref 5,iA at0],.row 76 (D.instrs (l++m0 (cw1 k e.kids) reg++[d8.mk 6 reg e.kind reg (reg+1)])),.row 3 (D.ints (fr++cv3 (m0 (cw1 k e.kids) reg).length n++[n]))] [(8,.ptr 3 0)] [wO (reg+1)] (o1 al) fun G=>b6 (wp_ret ?_)))));exact O8 G [0,1,2,4,5] (by show _=mR [0,1,2,4,5] (ae9 e l fr n reg);unfold ae9;have e1:(l++d7 e reg:List d8)=(l++m0 (cw1 k e.kids) reg++[d8.mk 6 reg e.kind reg (reg+1)]):=(bq2 al al al (la0 al al));have e2:(fr++cv3 (d7 e reg).length n:List Int)=(fr++cv3 (m0 (cw1 k e.kids) reg).length n++[n]):=(a81 al al al);(first|rw[e1,e2]|simp only[e1,e2])<;>rfl)
      refine wp_seq (rA1 G (w6 9 [6,7] (I3 (l++m0 (cw1 k e.kids) reg) (fr++cv3 (m0 (cw1 k e.kids) reg).length n) at0 n 7 reg reg (reg+1) (reg+2) (by have:=aD1 (k:=k) (reg:=reg) r2;have:=aS5 (e:=e) (n:=n) (k:=k) (reg:=reg) r3;omega) (by have:=aD1 (k:=k) (reg:=reg) r2;have:=aS5 (e:=e) (n:=n) (k:=k) (reg:=reg) r3;omega))) [0,1,2,3,4,5,6,7,80,81] [.dead,.dead,dE e.kids,.box [.ref 6,.ref 7,iA at0],.box (eL e 2),.box [.ref 8,.ref 9,iA at0],.dead,.dead,.row 76 (D.instrs (l++m0 (cw1 k e.kids) reg++[d8.mk 7 reg reg (reg+1) (reg+2)])),.row 3 (D.ints (fr++cv3 (m0 (cw1 k e.kids) reg).length n++[n]))] (ab9 n reg []) [wO (reg+1),wO (reg+2)] (o2 al) fun G=>b6 (wp_ret (B7 (l7 ?_))));exact O8 G [0,1,2,8,9] (by show _=mR [0,1,2,8,9] (ae9 e l fr n reg);unfold ae9;have e1:(l++d7 e reg:List d8)=(l++m0 (cw1 k e.kids) reg++[d8.mk 7 reg reg (reg+1) (reg+2)]):=(bq2 al al al (ct8 al));have e2:(fr++cv3 (d7 e reg).length n:List Int)=(fr++cv3 (m0 (cw1 k e.kids) reg).length n++[n]):=(a81 al al al);(first|rw[e1,e2]|simp only[e1,e2])<;>rfl)
     refine wp_seq (j9 G (w6 7 [6,7] (I3 (l++m0 (cw1 k e.kids) reg) (fr++cv3 (m0 (cw1 k e.kids) reg).length n) at0 n 4 reg e.value reg 0 (by have:=aD1 (k:=k) (reg:=reg) r2;have:=aS5 (e:=e) (n:=n) (k:=k) (reg:=reg) r3;omega) (by have:=aD1 (k:=k) (reg:=reg) r2;have:=aS5 (e:=e) (n:=n) (k:=k) (reg:=reg) r3;omega))) [0,1,2,3,4,5,6,7,64,65] [.dead,.dead,dE e.kids,.box [.ref 6,.ref 7,iA at0],.box (eL e 2),.box [.ref 8,.ref 9,iA at0],.dead,.dead,.row 76 (D.instrs (l++m0 (cw1 k e.kids) reg++[d8.mk 4 reg e.value reg 0])),.row 3 (D.ints (fr++cv3 (m0 (cw1 k e.kids) reg).length n++[n]))] (ab9 n reg []) fun G=>b6 (wp_ret (B7 (l7 ?_))));exact O8 G [0,1,2,8,9] (by show _=mR [0,1,2,8,9] (ae9 e l fr n reg);unfold ae9;have e1:(l++d7 e reg:List d8)=(l++m0 (cw1 k e.kids) reg++[d8.mk 4 reg e.value reg 0]):=(bq2 al al al (la3 al));have e2:(fr++cv3 (d7 e reg).length n:List Int)=(fr++cv3 (m0 (cw1 k e.kids) reg).length n++[n]):=(a81 al al al);(first|rw[e1,e2]|simp only[e1,e2])<;>rfl)
    refine wp_skip (b6 (wp_seq (wp_block (S8 G (w6 10 [6,7,56] (ih (e.kids.getD k cv2) (ay6 al) (l++m0 (cw1 k e.kids) reg) (fr++cv3 (m0 (cw1 k e.kids) reg).length n) at0 n (reg+(k:Int)) al ((cc9 r0 r1 al).2) (cd0 r2 al) (aS5 r3))) [0,0,0,4,0,28,60,0,0,384,1023,2047] [0,1,2,3,4,5,88,89] (a09 e at0 [.row 76 (D.instrs (l++m0 (cw1 k e.kids) reg++d7 (e.kids.getD k cv2) (reg+(k:Int)))),.row 3 (D.ints (fr++cv3 (m0 (cw1 k e.kids) reg).length n++cv3 (d7 (e.kids.getD k cv2) (reg+(k:Int))).length n))]) (ab9 n reg [(9,iA k)]) (iX k k e.kids.length ((wO (reg+(k:Int)))::[])) (iK al (o1 al)) fun G=>p8 (b6 (P4 G f8 [(9,iA ((k:Int)+1))] [wO ((k:Int)+1)] (o1 al) fun G=>b6 ?_))))));exact U5 G (k+1) al al (rg 8) (by have e1:(l++m0 (cw1 (k+1) e.kids) reg:List d8)=(l++m0 (cw1 k e.kids) reg++d7 (e.kids.getD k cv2) (reg+(k:Int))):=(b16 al);have e2:(fr++cv3 (m0 (cw1 (k+1) e.kids) reg).length n:List Int)=(fr++cv3 (m0 (cw1 k e.kids) reg).length n++cv3 (d7 (e.kids.getD k cv2) (reg+(k:Int))).length n):=(bS9 al);(first|rw[e1,e2]|simp only[e1,e2])<;>rfl)
   refine wp_seq (j9 G (w6 6 [0,1] (I3 l fr at0 n 2 reg e.value 0 0 al al)) [0,1,2,3,4,5,54,55] [.dead,.dead,dE e.kids,.box [.ref 0,.ref 1,iA at0],.box (eL e 2),.box [.ref 6,.ref 7,iA at0],.row 76 (D.instrs (l++[d8.mk 2 reg e.value 0 0])),.row 3 (D.ints (fr++[n]))] (ab9 n reg []) fun G=>b6 (wp_ret (B7 (l7 ?_))));exact O8 G [0,1,2,6,7] (by show _=mR [0,1,2,6,7] (ae9 e l fr n reg);unfold ae9;rw[ce2 al]<;>rfl)
  refine wp_seq (j9 G (w6 6 [0,1] (I3 l fr at0 n 1 reg e.value 0 0 al al)) [0,1,2,3,4,5,54,55] [.dead,.dead,dE e.kids,.box [.ref 0,.ref 1,iA at0],.box (eL e 2),.box [.ref 6,.ref 7,iA at0],.row 76 (D.instrs (l++[d8.mk 1 reg e.value 0 0])),.row 3 (D.ints (fr++[n]))] (ab9 n reg []) fun G=>b6 (wp_ret (B7 (l7 ?_))));exact O8 G [0,1,2,6,7] (by show _=mR [0,1,2,6,7] (ae9 e l fr n reg);unfold ae9;rw[ce1 al]<;>rfl)
theorem bh4(e:c6):∀(l:List d8) (fr:List Int) (at0 n reg:Int),0<=reg->reg+B9 e<=2000000->l.length+B9 e<=5000000->fr.length=l.length->j8.ok Tryz.prog (l7C l fr at0 n e reg):=
 c6.ind (P:=fun e=>∀(l:List d8) (fr:List Int) (at0 n reg:Int),0<=reg->reg+B9 e<=2000000->l.length+B9 e<=5000000->fr.length=l.length->j8.ok Tryz.prog (l7C l fr at0 n e reg)) (fun k v ks ih l fr at0 n reg r0 r1 r2 r3=>bJ8 ⟨k,v,ks⟩ (fun u hu=>ih u hu) l fr at0 n reg r0 r1 r2 r3) e
theorem l5.sel{ι:Type}{φ ψ:Nat->Prop}{w0 w:World}{F:ι->Rs}{ρ:Nat->Value}{S S1:List It}{js:List Nat}(M:l5 φ ψ w0 w (r7 F ρ (t6 S)))(hn:js.Nodup)(hl:js.length=S1.length)(hS:js.map (t6 S)=S1.map (It.ren (nth js))):l5 φ ψ w0 w (r7 F (fun i=>ρ (nth js i)) (t6 S1)):=by
 refine M.map (fun k:ι ⊕ Nat=>(match k with|.inl i=>some (.inl i)|.inr i=>if i<js.length then some (.inr (nth js i))else none:Option (ι ⊕ Nat))) ?_ ?_
 ·intro k k' x h1 h2
  match k,k' with
  |.inl i,.inl i'=>simp at h1 h2;rw[<-h1]at h2;simpa using h2.symm
  |.inl i,.inr j=>simp only at h1 h2;cases h1;split at h2<;>simp at h2
  |.inr j,.inl i=>simp only at h1 h2;cases h2;split at h1<;>simp at h1
  |.inr j,.inr j'=>
   simp at h1 h2
   obtain⟨f1,f2⟩:=h1
   obtain⟨g1,g2⟩:=h2
   rw[<-f2]at g2
   have hj:=Sum.inr.inj g2
   have e1:=cv6 f1
   have e2:=cv6 g1
   rw[K1 e2,K1 e1]at hj
   have:=(List.getElem?_inj f1 hn).1 (e1.trans (by rw[<-hj];exact e2.symm))
   rw[this]
 intro k
 match k with
 |.inl i=>exact .inl ⟨_,rfl,rfl⟩
 | .inr i =>
  by_cases hlt:i<js.length
  ·refine .inl ⟨.inr (nth js i),by simp[hlt],?_⟩
   have h1:=congrArg (·[i]?) hS
   have hlt':i<S1.length:=al
   simp only[List.getElem?_map,cv6 hlt,cv6 hlt',Option.map_some,Option.some.injEq]at h1
   simp only[r7]
   rw[an1 hlt',K1 (cv6 hlt),h1, <-It.res_ren,K1 (cv6 hlt)]
  refine .inr ?_
  simp only[r7]
  rw[A6 al]
  rfl
theorem j8.nilArg{P:Program}{f:FuncId}{args args0:List AV}{pre post post':List It}{res res':AV}{e:TypeId}{d:D}(hc:j8.ok P ⟨f,args0,pre++[.row e d],post,res⟩)(k:Nat)(js:List Nat)(hd:D.nil k=some d)(ha:args=AV.denL false pre.length args0)(hid:(ac6 pre.length (AV.idsL args)&&pre.all (fun x=>ac6 pre.length x.ids)&&nodupB js&&natEq js.length post'.length&&b50 pre.length js)=true)(hS:js.map (t6 post)=post'.map (It.ren (nth js)))(hr:res=res'.ren (nth js)):j8.ok P ⟨f,args,pre,post',res'⟩:=by
 intro ι φ ψ w0 w F ρ M
 simp only[cv4,natEq,beq_iff_eq]at hid
 obtain⟨⟨⟨⟨h1,h2⟩,h3⟩,h4⟩,h5⟩:=hid
 have hz:=D.nil_len hd
 have hvals:=(AV.vals_den (ρ:=ρ) (t:=false) (n:=pre.length) (z:=.slice none 0 0) an args0 (by rw[<-ha];exact G5 h1)).1
 have hlt:∀j,j<pre.length->t6 (pre++[.row e d]) j=t6 pre j:=fun j hj=>by simp[t6,cv8,cw8 hj]
 have hids:∀j,∀i∈(t6 pre j).ids,i<pre.length:=fun j=>by
  by_cases hj:j<pre.length
  ·rw[an1 hj]
   exact G5 (cw3.1 h2 _ (cx9 hj))
  rw[A6 al];intro i hi;cases hi
 have M1:l5 φ ψ w0 w (r7 F (fun j=>if j=pre.length then .slice none 0 0 else ρ j) (t6 (pre++[.row e d]))):=by
  refine l5.put M (.inr pre.length) (fun k hk=>?_) (E4.refl _ _) ?_ ?_
  ·cases k with
   |inl i=>rfl
   | inr j =>
    simp only[r7]
    rcases Nat.lt_trichotomy j pre.length with h|h|h
    ·rw[hlt j h]
     exact It.res_congr _ (fun i hi=>if_neg (by have:=hids j i hi;omega)) (.inr (.inr (if_neg al)))
    ·exact absurd (by rw[h]) hk
    rw[A6 (show(pre++[It.row e d]).length<=j by simp;omega),A6 (show pre.length<=j by omega)];rfl
  ·have:t6 (pre++[.row e d]) pre.length=.row e d:=by simp[t6,cv8]
   simp only[r7,this,It.res,if_true]
   refine⟨fun xs=>RW.nice d xs,[],?_,RW.nil hz _⟩
   rw[hz];exact World.ownsRow_nil _ _ _ _
  intro g hg
  have:t6 (pre++[.row e d]) pre.length=.row e d:=by simp[t6,cv8]
  simp only[r7,this,It.res,if_true]at hg
  cases hg
 have h:=hc ι φ ψ w0 w F _ M1
 simp only[hvals, <-ha]at h
 refine h.mono ?_
 rintro x w' ⟨ρ2,g1,rfl,M2⟩
 have hk:∀i,i<pre.length->nth js i=i:=fun i hi=>by
  have:=cw3.1 h5 i (cz5.2 hi)
  simp only[cv4,natEq,beq_iff_eq]at this
  exact this.1
 refine⟨fun i=>ρ2 (nth js i),fun i hi=>?_,?_,M2.sel (au2 h3) h4 hS⟩
 ·have hi:i<pre.length:=hi
  simp only[hk i hi]
  rw[g1 i ah,if_neg al]
 show Ending.returned (res.val ρ2)=.returned (res'.val _)
 rw[hr,AV.val_ren]
def TF(z:Bool)(p:Prop):Prop:=(z=true/\p)\/(z=false/\¬p)
theorem TF.t{z:Bool}{p:Prop}(h:TF z p)(h2:z=true):p:=h.elim (·.2) fun h=>by rw[h.1]at h2;cases h2
theorem TF.f{z:Bool}{p:Prop}(h:TF z p)(h2:z=false):¬p:=h.elim (fun h=>by rw[h.1]at h2;cases h2) (·.2)
theorem TF.d{p q:Prop}[Decidable q](h:q↔p):TF (decide q) p:=by
 by_cases hq:q
 ·exact .inl ⟨decide_eq_true hq,h.1 hq⟩
 exact .inr ⟨decide_eq_false hq,fun hp=>hq (h.2 hp)⟩
section
variable{P:Program}{ι:Type}{φ ψ:Nat->Prop}{w0 w:World}{F:ι->Rs}{N m:Nat}{ρ0 ρ:Nat->Value}{S:List It}{tm:List (Nat×AV)}{a:Act}{Q:Exit->Act->World->Prop}
theorem bX6{κ:Type}{c1 c2:Code}(G:x7 φ ψ w0 F N m ρ0 ρ S tm a w)(pre:κ->Prop)(Sk:κ->List It)(Tk:κ->List (Nat×AV))(h1:c1.wp P (Exit.then (fun a' w'=>∃k' ρ',pre k'/\0<1/\x7 φ ψ w0 F N m ρ0 ρ' (Sk k') (Tk k') a' w') Q) a w)(h2:∀k ρ a w,pre k->x7 φ ψ w0 F N m ρ0 ρ (Sk k) (Tk k) a w->c2.wp P Q a w):(Code.seq c1 c2).wp P Q a w:=by
 refine wp_seq (wp_mono h1 ?_)
 intro e a' w' hq
 cases e with
 |normal=>obtain⟨k,ρ',hp,_,Gk⟩:=hq;exact h2 k ρ' a' w' hp Gk
 |_=>exact hq
theorem aI4{κ:Type}{pre:κ->Prop}{Sk:κ->List It}{Tk:κ->List (Nat×AV)}(G:x7 φ ψ w0 F N m ρ0 ρ S tm a w)(k':κ)(hp:pre k')(js:List Nat)(S1:List It)(tm1:List (Nat×AV))(hs1:Sk k'=S1)(ht1:Tk k'=tm1)
  (hb:ak1 m js S1 tm1=true) (hS:js.map (t6 S)=S1.map (It.ren (nth js))) (ht:(tm1.map (·.1)).map (C2 tm)=tm1.map fun p=>some (p.2.ren (nth js))):
  ∃k' ρ',pre k'/\0<1/\x7 φ ψ w0 F N m ρ0 ρ' (Sk k') (Tk k') a w:=by
 subst hs1;subst ht1
 exact⟨k',_,hp,Nat.zero_lt_one,Inn.sel G js _ _ hb hS ht⟩
end
theorem bq8(op:Int)(r0:1<=op/\op<=13):j8.ok Tryz.prog (Y3 121 [iA op] [] (.v (.string ⟨(m7 op).toArray⟩))):=
 bo0 fun φ w ρ h=>(ar9 op w r0.1 r0.2).mono fun e w' h=>h
theorem bF4(b:List UInt8)(j:Int)(r0:0<=j)(r1:j<=900000000):j8.ok Tryz.prog ⟨71,[.ptr 0 0],[.box [.ref 1,iA j],dY b],[.box [.ref 1,iA (j+1)],dY b],iA (nm b j vaL)⟩:=by
 refine H9 6 Tryz.func71 [.box [.ref 1,iA j],dY b] [(0,.ptr 0 0)] fun G=>?_;refine wp_seq (l8 G f8 [(2,iA 0)] fun G=>b6 (wp_seq (j9 G (w6 2 [0,1,10] (j8.lend (T6 b j ([0]++([1]++([2]++([3]++([255]++([128]++([7]++([4]++([100]++[]))))))))) (List.cons_ne_nil _ _) ai al) [.no,.no,.row 3])) [0,1] [.box [.ref 1,iA (j+1)],dY b] [(2,iA (nm b j ([0]++([1]++([2]++([3]++([255]++([128]++([7]++([4]++([100]++[])))))))))))] fun G=>b6 (wp_ret ?_))));exact O8 G [0,1]
theorem b95:∀x∈opL,1<=x/\x<=12:=ak
theorem cs5(b:List UInt8){j:Int}(r0:0<=j)(r1:j<=900000000):1<=nm b j opL/\nm b j opL<=12:=b95 _ (aB7 b r0 al (List.cons_ne_nil _ _))
abbrev rnC(b:List UInt8)(j:Int)(vs ars:List Int)(l:List d8)(at0 n:Int):j8:=⟨114,[.ptr 0 0,.agg [.ref 2,.ref 3,.ref 4],iA at0,iA n],[.box [.ref 1,iA j],dY b,dI vs,dI ars,dN l],[.box [.ref 1,iA (rnD b j vs.length ars.length at0 n).2],dY b,dI vs,dI ars,dN l],.agg [iA (rnD b j vs.length ars.length at0 n).1.op,iA (rnD b j vs.length ars.length at0 n).1.a,iA (rnD b j vs.length ars.length at0 n).1.b,iA (rnD b j vs.length ars.length at0 n).1.c,iA (rnD b j vs.length ars.length at0 n).1.d]⟩
theorem ba1{x:UInt8}{m:Nat}(h:((x.toNat:Nat):Int)=m)(hm:m<256):x=UInt8.ofNat m:=by
 apply UInt8.toNat_inj.1
 rw[UInt8.toNat_ofNat']
 omega
section
variable{b:List UInt8}{j i at0 n X:Int}{nv na:Nat}{ks:List UInt8}{k:Nat}{x:UInt8}
theorem ci2(hX:nm b j opL=X)(h:na=0)(h2:X=4\/X=5):opD b j na=2:=by unfold opD;rw[hX,if_pos ⟨h,h2⟩]
theorem ci1(hX:nm b j opL=X)(h:¬na=0\/(¬X=4/\¬X=5)):opD b j na=X:=by unfold opD;rw[hX,if_neg al]
theorem bn4(b:List UInt8){i m:Int}(h0:0<=i)(h1:i<=1000000000):0<=pk b i m/\(pk b i m=0\/pk b i m<m):=by
 by_cases h:m<1
 ·rw[ch6 h];omega
 have:=b91 b h0 h1 (n:=m) al;omega
theorem cr5(h:((x.toNat:Nat):Int)=114):ptD b i nv na at0 n x=pk b i 3:=by
 rw[ba1 (m:=114) h ak];rfl
theorem cr7(h:((x.toNat:Nat):Int)=99):ptD b i nv na at0 n x=nm b i vaL:=by
 rw[ba1 (m:=99) h ak];rfl
theorem cr3(h:((x.toNat:Nat):Int)=118):ptD b i nv na at0 n x=pk b i nv:=by
 rw[ba1 (m:=118) h ak];rfl
theorem cr8(h:((x.toNat:Nat):Int)=97):ptD b i nv na at0 n x=pk b i na:=by
 rw[ba1 (m:=97) h ak];rfl
theorem cr6(h:((x.toNat:Nat):Int)=111):ptD b i nv na at0 n x=4+pk b i 7:=by
 rw[ba1 (m:=111) h ak];rfl
theorem cr4(h1:¬((x.toNat:Nat):Int)=114)(h2:¬((x.toNat:Nat):Int)=99)(h3:¬((x.toNat:Nat):Int)=118)(h4:¬((x.toNat:Nat):Int)=97)(h5:¬((x.toNat:Nat):Int)=111):ptD b i nv na at0 n x=at0+1+pk b i (n-at0-1):=by
 unfold ptD
 rw[if_neg fun e=>h1 (by rw[e];rfl),if_neg fun e=>h2 (by rw[e];rfl),if_neg fun e=>h3 (by rw[e];rfl),if_neg fun e=>h4 (by rw[e];rfl),if_neg fun e=>h5 (by rw[e];rfl)]
theorem cr9{v:Int}(hk:k<4)(h:ptD b (j+k) nv na at0 n (ks.getD k 0)=v):psD b j nv na at0 n ks (k+1)=(psD b j nv na at0 n ks k).set k v:=by rw[bL4 b j nv na at0 n ks hk,h]
theorem bsz(l:List UInt8):(ByteArray.mk l.toArray).size=l.length:=by simp[ByteArray.size]
theorem cq3(ho:opD b j na=X)(hk:(m7 X).length<=k)(hk2:k<=(m7 X).length):rnD b j nv na at0 n=(⟨X,(psD b (j+1) nv na at0 n (m7 X) k).getD 0 0,(psD b (j+1) nv na at0 n (m7 X) k).getD 1 0,(psD b (j+1) nv na at0 n (m7 X) k).getD 2 0,(psD b (j+1) nv na at0 n (m7 X) k).getD 3 0⟩,j+1+k):=by
 have e:k=(m7 X).length:=al
 subst e
 unfold rnD
 rw[ho]
def RnR(b:List UInt8)(j at0 n:Int)(nv na:Nat)(R:Int->Nat->List Int):Prop:=∀X k,R X k=psD b (j+1) nv na at0 n (m7 X) k
variable{R:Int->Nat->List Int}
theorem RnR.len(h:RnR b j at0 n nv na R)(X:Int)(k:Nat):(R X k).length=4:=by rw[h X k,bv7]
theorem RnR.start(h:RnR b j at0 n nv na R)(X:Int):R X 0=[0,0,0,0]:=h X 0
theorem RnR.next(h:RnR b j at0 n nv na R){X v:Int}(hk:k<4)(hp:ptD b (j+1+k) nv na at0 n ((m7 X).getD k 0)=v):R X (k+1)=(R X k).set k v:=by rw[h X (k+1),h X k];exact cr9 hk hp
theorem RnR.done(h:RnR b j at0 n nv na R){X:Int}(ho:opD b j na=X)(hk:(m7 X).length<=k)(hk2:k<=(m7 X).length):rnD b j nv na at0 n=(⟨X,(R X k).getD 0 0,(R X k).getD 1 0,(R X k).getD 2 0,(R X k).getD 3 0⟩,j+1+k):=by rw[h X k];exact cq3 ho hk hk2
end
abbrev ar6(Y:Int):AV:=.v (.string (ByteArray.mk (m7 Y).toArray))
abbrev af7:It:=.box [iA 0,iA 0,iA 0,iA 0,iA 0]
abbrev av8(Y:Int):It:=.box [iA Y,iA 0,iA 0,iA 0,iA 0]
abbrev aW8(j:Int)(k:Nat):It:=.box [.ref 1,iA (j+1+(k:Int)+1)]
abbrev P8(at0:Int)(n:Int)(r0:List (Nat×AV)):List (Nat×AV):=(0,.ptr 0 0)::(2,iA at0)::(3,iA n)::(5,.ptr 5 0)::(8,.ptr 6 0)::(9,.ptr 7 0)::r0
abbrev av5(b:List UInt8)(j:Int)(vs:List Int)(ars:List Int)(l:List d8)(r0:List It):List It:=.box [.ref 1,iA (j+1)]::dY b::dI vs::dI ars::dN l::.box (pL 2)::r0
theorem bl9(b:List UInt8)(j:Int)(vs ars:List Int)(l:List d8)(at0 n X:Int)(hX:nm b j opL=X)(r0:0<=j)(r1:j<=800000000)(r2:0<=at0/\at0<=100)(r3:0<=n/\n<=100):j8.ok Tryz.prog (rnC b j vs ars l at0 n):=by
  have hnum:j8.ok Tryz.prog ⟨109,[.ptr 0 0,.ref 2],[.box [.ref 1,iA j],dY b,dI opL],[.box [.ref 1,iA (j+1)],dY b,dI opL],iA X⟩:=hX▸T6 b j opL (List.cons_ne_nil _ _) r0 al;refine H9 114 Tryz.func114 [.box [.ref 1,iA j],dY b,dI vs,dI ars,dN l] [(0,.ptr 0 0),(1,pA 2),(2,iA at0),(3,iA n)] fun G=>?_;obtain⟨R,hR⟩:∃x:Int->Nat->List Int,RnR b j at0 n vs.length ars.length x:=⟨_,fun _ _=>rfl⟩;have hRl:=hR.len;have hop:1<=X/\X<=12:=hX▸cs5 b r0 al;refine wp_seq (j9 G f8 [0,1,2,3,4,5,13] [.box [.ref 1,iA j],dY b,dI vs,dI ars,dN l,.box (pL 2),af7] [(0,.ptr 0 0),(2,iA at0),(3,iA n),(5,.ptr 5 0),(8,.ptr 6 0)] fun G=>b6 (wp_seq (j9 G (w6 2 [0,1,15] (j8.lend hnum [.no,.no,.row 3])) [0,1,2,3,4,5,6,39] (av5 b j vs ars l [af7,.box [iA X,iA 0,iA 0,iA 0,iA 0]]) (P8 at0 n []) fun G=>b6 ?_)));refine bX6 (κ:=Int) G (fun Y=>1<=Y/\Y<=12/\opD b j ars.length=Y) (fun Y=>(av5 b j vs ars l [.box [iA 0,iA 0,iA 0,iA 0,iA 0],.box [iA Y,iA 0,iA 0,iA 0,iA 0]])) (fun Y=>(P8 at0 n [])) ?_ ?_
  ·
   refine wp_seq ?_;cases h0:((ars.length:Int)==0)
   · have q0:=ne_of_beq_false h0;refine G3 G (K6 (fc h0 fz) (us [(5,8,0),(12,12,0),(1013,1013,0)])) (P8 at0 n [(30,bA false)]) fun G=>b6 (rF G false aj (wp_skip (b6 ?_)));exact aI4 G X (⟨al,al,ci1 hX al⟩) (rg 8) (av5 b j vs ars l [.box [iA 0,iA 0,iA 0,iA 0,iA 0],.box [iA X,iA 0,iA 0,iA 0,iA 0]]) (P8 at0 n []) aj aj aj aj aj
   have q0:=eq_of_beq h0;cases h1:(X==4)
   ·
    have q1:=ne_of_beq_false h1;refine G3 G (K6 (fc h0 (fc h1 fz)) (us [(5,8,0),(9,11,1),(12,12,0),(1012,1012,1),(1013,1013,0)])) (P8 at0 n [(30,bA (X==5))]) fun G=>b6 (S4 G (fun h2 q2=>?_) fun h2 q2=>?_)
    · refine wp_skip (b6 ?_);exact aI4 G X (⟨al,al,ci1 hX al⟩) (rg 8) [.box [.ref 1,iA (j+1)],dY b,dI vs,dI ars,dN l,.box (pL 2),.box [iA 0,iA 0,iA 0,iA 0,iA 0],.box [iA X,iA 0,iA 0,iA 0,iA 0]] [(0,.ptr 0 0),(2,iA at0),(3,iA n),(5,.ptr 5 0),(8,.ptr 6 0),(9,.ptr 7 0)] aj aj aj aj aj
    refine j9 G f8 (rg 8) (av5 b j vs ars l [af7,.box [iA 2,iA 0,iA 0,iA 0,iA 0]]) (P8 at0 n []) fun G=>b6 ?_;exact aI4 G 2 (⟨al,al,ci2 hX al al⟩) (rg 8) (av5 b j vs ars l [.box [iA 0,iA 0,iA 0,iA 0,iA 0],.box [iA 2,iA 0,iA 0,iA 0,iA 0]]) (P8 at0 n []) aj aj aj aj aj
   have q1:=eq_of_beq h1;refine G3 G (K6 (fc h0 (fc h1 fz)) (us [(5,8,0),(9,11,1),(12,12,0),(1012,1012,1),(1013,1013,0)])) (P8 at0 n [(30,bA true)]) fun G=>b6 (rT G true aj (j9 G f8 (rg 8) (av5 b j vs ars l [af7,.box [iA 2,iA 0,iA 0,iA 0,iA 0]]) (P8 at0 n []) fun G=>b6 ?_));exact aI4 G 2 (⟨al,al,ci2 hX al al⟩) (rg 8) (av5 b j vs ars l [.box [iA 0,iA 0,iA 0,iA 0,iA 0],.box [iA 2,iA 0,iA 0,iA 0,iA 0]]) (P8 at0 n []) aj aj aj aj aj
  clear G;intro Y ρ a w hp G;replace G:=x7.at G (av5 b j vs ars l [af7,av8 Y]) (P8 at0 n []);have hY:=hp;refine wp_seq (l8 G (w6 2 [] (bq8 Y al)) [(10,ar6 Y)] fun G=>b6 (wp_seq (j9 G f8 (rg 9) (av5 b j vs ars l [af7,av8 Y,.row 3 (D.ints ([0]++([0]++([0]++([0]++[])))))]) (P8 at0 n [(10,ar6 Y),(11,.ref 8)]) fun G=>b6 (wp_seq (wp_seq (G3 G f8 (P8 at0 n [(10,ar6 Y),(11,.ref 8),(12,iA 0)]) fun G=>b6 (wp_block ?_)))))));replace G:=G.as [.box [.ref 1,iA (j+1+(0:Int))],dY b,dI vs,dI ars,dN l,.box (pL 2),.box [iA 0,iA 0,iA 0,iA 0,iA 0],.box [iA Y,iA 0,iA 0,iA 0,iA 0],.row 3 (D.ints (R Y 0))] (P8 at0 n [(10,.v (.string (ByteArray.mk (m7 Y).toArray))),(11,.ref 8),(12,iA 0)]) (by have e1:(j+1+(0:Int):Int)=(j+1):=al;have e2:(R Y 0:List Int)=([0]++([0]++([0]++([0]++[])))):=(hR.start _);(first|rw[e1,e2]|simp only[e1,e2])<;>rfl) aj;refine x6 (κ:=Nat) (fun k=>k<=(m7 Y).length) (fun k=>(m7 Y).length-k) (fun k=>[.box [.ref 1,iA (j+1+k)],dY b,dI vs,dI ars,dN l,.box (pL 2),.box [iA 0,iA 0,iA 0,iA 0,iA 0],.box [iA Y,iA 0,iA 0,iA 0,iA 0],.row 3 (.ints (R Y k))]) (fun k=>[(0,.ptr 0 0),(2,iA at0),(3,iA n),(5,.ptr 5 0),(8,.ptr 6 0),(9,.ptr 7 0),(10,.v (.string (ByteArray.mk (m7 Y).toArray))),(11,.ref 8),(12,iA k)]) 0 al (x7.at G _ _) ?_;clear G;intro k ρ a w hp G;replace G:=x7.at G [.box [.ref 1,iA (j+1+(k:Int))],dY b,dI vs,dI ars,dN l,.box (pL 2),af7,av8 Y,.row 3 (D.ints (R Y k))] (P8 at0 n [(10,ar6 Y),(11,.ref 8),(12,iA k)]);have hfl:=au8 Y;have hbz:=bsz (m7 Y);refine wp_seq (wp_seq (l8 G f8 [(39,bA (decide ((k:Int)<((ByteArray.mk (m7 Y).toArray).size:Int))))] fun G=>b6 (rcD G (fun h3 q3=>?_) fun h3 q3=>?_)))
  · refine wp_exit (v8 (v8 (v6 (b6 (wp_seq (S8 G f8 [0,1,0,4,12,0,32,96,0,256,768,0,2048,6144,16383,32767] [0,1,2,3,4,6] [.box [.ref 1,iA (j+1+(k:Int))],dY b,dI vs,dI ars,dN l,.box [iA Y,iA ((R Y k).getD 0 0),iA ((R Y k).getD 1 0),iA ((R Y k).getD 2 0),iA ((R Y k).getD 3 0)]] [(8,.ptr 5 0)] [(0:Int)<=0,(0:Int)<((R Y k).length:Int),(0:Nat)<(R Y k).length,(0:Int)<=1,(1:Int)<((R Y k).length:Int),(1:Nat)<(R Y k).length,(0:Int)<=2,(2:Int)<((R Y k).length:Int),(2:Nat)<(R Y k).length,(0:Int)<=3,(3:Int)<((R Y k).length:Int),(3:Nat)<(R Y k).length] ⟨al,(by rw[hRl];decide),(by rw[hRl];decide),al,(by rw[hRl];decide),(by rw[hRl];decide),al,(by rw[hRl];decide),(by rw[hRl];decide),al,(by rw[hRl];decide),(by rw[hRl];decide),cx2⟩ fun G=>b6 (wp_ret ?_)))))));exact Z1 (.agg [iA Y,iA ((R Y k).getD 0 0),iA ((R Y k).getD 1 0),iA ((R Y k).getD 2 0),iA ((R Y k).getD 3 0)]) G (rg 5) (by have e1:((rnD b j vs.length ars.length at0 n).fst.op:Int)=(Y):=(by rw[hR.done (k:=k) hY.2.2 al al];done);have e2:((rnD b j vs.length ars.length at0 n).fst.a:Int)=((R Y k).getD 0 0):=(by rw[hR.done (k:=k) hY.2.2 al al];done);have e3:((rnD b j vs.length ars.length at0 n).fst.b:Int)=((R Y k).getD 1 0):=(by rw[hR.done (k:=k) hY.2.2 al al];done);have e4:((rnD b j vs.length ars.length at0 n).fst.c:Int)=((R Y k).getD 2 0):=(by rw[hR.done (k:=k) hY.2.2 al al];done);have e5:((rnD b j vs.length ars.length at0 n).fst.d:Int)=((R Y k).getD 3 0):=(by rw[hR.done (k:=k) hY.2.2 al al];done);(first|rw[e1,e2,e3,e4,e5]|simp only[e1,e2,e3,e4,e5])<;>rfl) (by show _=mR (rg 5) [.box [.ref 1,iA (rnD b j vs.length ars.length at0 n).snd],dY b,dI vs,dI ars,dN l];rw[hR.done (k:=k) hY.2.2 al al]<;>rfl)
  refine wp_skip (b6 (wp_seq (wp_block (wp_seq (P4 G f8 [(44,.v (.int .u8 (((m7 Y).getD k 0).toNat:Int)))] [(0:Int)<=(k:Int),(k:Int)<((ByteArray.mk (m7 Y).toArray).size:Int)] ⟨al,ai,cx2⟩ fun G=>b6 (wp_block (wp_seq (l8 G f8 [(57,bA ((((m7 Y).getD k 0).toNat:Int)==114))] fun G=>b6 (S4 (u:=(((m7 Y).getD k (0:UInt8)).toNat:Int)) (v:=(114:Int)) G (fun h4 q4=>?_) fun h4 q4=>?_)))))))))
  ·
   refine wp_seq (l8 G f8 [(64,bA ((((m7 Y).getD k 0).toNat:Int)==99))] fun G=>b6 (S4 (u:=(((m7 Y).getD k (0:UInt8)).toNat:Int)) (v:=(99:Int)) G (fun h5 q5=>?_) fun h5 q5=>?_))
   ·
    refine wp_seq (l8 G f8 [(71,bA ((((m7 Y).getD k 0).toNat:Int)==118))] fun G=>b6 (S4 (u:=(((m7 Y).getD k (0:UInt8)).toNat:Int)) (v:=(118:Int)) G (fun h6 q6=>?_) fun h6 q6=>?_))
    ·
     refine wp_seq (l8 G f8 [(81,bA ((((m7 Y).getD k 0).toNat:Int)==97))] fun G=>b6 (S4 (u:=(((m7 Y).getD k (0:UInt8)).toNat:Int)) (v:=(97:Int)) G (fun h7 q7=>?_) fun h7 q7=>?_))
     ·
      refine wp_seq (l8 G f8 [(91,bA ((((m7 Y).getD k 0).toNat:Int)==111))] fun G=>b6 (S4 (u:=(((m7 Y).getD k (0:UInt8)).toNat:Int)) (v:=(111:Int)) G (fun h8 q8=>?_) fun h8 q8=>?_))
      · refine rA1 G (w6 9 [0,1] (D7 b (j+1+(k:Int)) (n-at0-1) al al)) (rg 9) [aW8 j k,dY b,dI vs,dI ars,dN l,.box (pL 2),af7,av8 Y,.row 3 (D.ints ((R Y k).set k (at0+1+pk b (j+1+(k:Int)) (n-at0-1))))] (P8 at0 n [(10,ar6 Y),(11,.ref 8),(12,iA k)]) ((wO (at0+1))::((wO (n-at0))::((wO (n-at0-1))::((wO (at0+1+pk b (j+1+(k:Int)) (n-at0-1)))::(iX k k ((R Y k).length) []))))) ⟨oW al,⟨oW al,⟨oW al,⟨(by have h9:=bn4 b (i:=j+1+k) (m:=n-at0-1) al al;exact w64 al al),(iK (by rw[hRl];omega) cx2)⟩⟩⟩⟩ fun G=>p8 (p8 (b6 (P4 G f8 [(12,iA ((k:Int)+1))] [wO ((k:Int)+1)] (o1 al) fun G=>b6 ?_)));exact U5 G (k+1) al al (rg 9) (by have e1:(j+1+(↑(k+1):Int):Int)=(j+1+(k:Int)+1):=al;have e2:(R Y (k+1):List Int)=((R Y k).set k (at0+1+pk b (j+1+(k:Int)) (n-at0-1))):=(hR.next al (cr4 ab ab ab ab ab));(first|rw[e1,e2]|simp only[e1,e2])<;>rfl)
      refine rA1 G (w6 3 [0,1] (D7 b (j+1+(k:Int)) 7 al al)) (rg 9) [aW8 j k,dY b,dI vs,dI ars,dN l,.box (pL 2),af7,av8 Y,.row 3 (D.ints ((R Y k).set k (4+pk b (j+1+(k:Int)) 7)))] (P8 at0 n [(10,ar6 Y),(11,.ref 8),(12,iA k)]) ((wO ((4:Int)+pk b (j+1+(k:Int)) (7:Int)))::(iX k k ((R Y k).length) [])) ⟨(by have h9:=bn4 b (i:=j+1+k) (m:=7) al al;exact w64 al al),(iK (by rw[hRl];omega) cx2)⟩ fun G=>p8 (p8 (b6 (P4 G f8 [(12,iA ((k:Int)+1))] [wO ((k:Int)+1)] (o1 al) fun G=>b6 ?_)));exact U5 G (k+1) al al (rg 9) (by have e1:(j+1+(↑(k+1):Int):Int)=(j+1+(k:Int)+1):=al;have e2:(R Y (k+1):List Int)=((R Y k).set k (4+pk b (j+1+(k:Int)) 7)):=(hR.next al (cr6 ab));(first|rw[e1,e2]|simp only[e1,e2])<;>rfl)
     refine rA1 G (w6 6 [0,1] (D7 b (j+1+(k:Int)) ((ars.length:Int)) al al)) (rg 9) [aW8 j k,dY b,dI vs,dI ars,dN l,.box (pL 2),af7,av8 Y,.row 3 (D.ints ((R Y k).set k (pk b (j+1+(k:Int)) (ars.length:Int))))] (P8 at0 n [(10,ar6 Y),(11,.ref 8),(12,iA k)]) (iX k k ((R Y k).length) []) (iK (by rw[hRl];omega) cx2) fun G=>p8 (p8 (b6 (P4 G f8 [(12,iA ((k:Int)+1))] [wO ((k:Int)+1)] (o1 al) fun G=>b6 ?_)));exact U5 G (k+1) al al (rg 9) (by have e1:(j+1+(↑(k+1):Int):Int)=(j+1+(k:Int)+1):=al;have e2:(R Y (k+1):List Int)=((R Y k).set k (pk b (j+1+(k:Int)) (ars.length:Int))):=(hR.next al (cr8 ab));(first|rw[e1,e2]|simp only[e1,e2])<;>rfl)
    refine rA1 G (w6 6 [0,1] (D7 b (j+1+(k:Int)) ((vs.length:Int)) al al)) (rg 9) [aW8 j k,dY b,dI vs,dI ars,dN l,.box (pL 2),af7,av8 Y,.row 3 (D.ints ((R Y k).set k (pk b (j+1+(k:Int)) (vs.length:Int))))] (P8 at0 n [(10,ar6 Y),(11,.ref 8),(12,iA k)]) (iX k k ((R Y k).length) []) (iK (by rw[hRl];omega) cx2) fun G=>p8 (p8 (b6 (P4 G f8 [(12,iA ((k:Int)+1))] [wO ((k:Int)+1)] (o1 al) fun G=>b6 ?_)));exact U5 G (k+1) al al (rg 9) (by have e1:(j+1+(↑(k+1):Int):Int)=(j+1+(k:Int)+1):=al;have e2:(R Y (k+1):List Int)=((R Y k).set k (pk b (j+1+(k:Int)) (vs.length:Int))):=(hR.next al (cr3 ab));(first|rw[e1,e2]|simp only[e1,e2])<;>rfl)
   refine rA1 G (w6 3 [0,1] (bF4 b (j+1+(k:Int)) al al)) (rg 9) [aW8 j k,dY b,dI vs,dI ars,dN l,.box (pL 2),af7,av8 Y,.row 3 (D.ints ((R Y k).set k (nm b (j+1+(k:Int)) vaL)))] (P8 at0 n [(10,ar6 Y),(11,.ref 8),(12,iA k)]) (iX k k ((R Y k).length) []) (iK (by rw[hRl];omega) cx2) fun G=>p8 (p8 (b6 (P4 G f8 [(12,iA ((k:Int)+1))] [wO ((k:Int)+1)] (o1 al) fun G=>b6 ?_)));exact U5 G (k+1) al al (rg 9) (by have e1:(j+1+(↑(k+1):Int):Int)=(j+1+(k:Int)+1):=al;have e2:(R Y (k+1):List Int)=((R Y k).set k (nm b (j+1+(k:Int)) vaL)):=(hR.next al (cr7 ab));(first|rw[e1,e2]|simp only[e1,e2])<;>rfl)
  refine rA1 G (w6 3 [0,1] (D7 b (j+1+(k:Int)) 3 al al)) (rg 9) [aW8 j k,dY b,dI vs,dI ars,dN l,.box (pL 2),af7,av8 Y,.row 3 (D.ints ((R Y k).set k (pk b (j+1+(k:Int)) 3)))] (P8 at0 n [(10,ar6 Y),(11,.ref 8),(12,iA k)]) (iX k k ((R Y k).length) []) (iK (by rw[hRl];omega) cx2) fun G=>p8 (p8 (b6 (P4 G f8 [(12,iA ((k:Int)+1))] [wO ((k:Int)+1)] (o1 al) fun G=>b6 ?_)));exact U5 G (k+1) al al (rg 9) (by have e1:(j+1+(↑(k+1):Int):Int)=(j+1+(k:Int)+1):=al;have e2:(R Y (k+1):List Int)=((R Y k).set k (pk b (j+1+(k:Int)) 3)):=(hR.next al (cr5 ab));(first|rw[e1,e2]|simp only[e1,e2])<;>rfl)
theorem bq7(b:List UInt8)(j:Int)(vs ars:List Int)(l:List d8)(at0 n:Int)(r0:0<=j)(r1:j<=800000000)(r2:0<=at0/\at0<=100)(r3:0<=n/\n<=100):j8.ok Tryz.prog (rnC b j vs ars l at0 n):=bl9 b j vs ars l at0 n _ rfl r0 r1 r2 r3
def cdF(F:c5->Int):List c5->Int
 |[]=>0
 |s::r=>if F s=0 then cdF F r else F s
def cdS(vs ars:List Int)(strict:Bool):Nat->Int->c5->Int
 |0,_,_=>0
 | d + 1, pc, s => if ad4 ⟨vs, ars, []⟩ s pc strict = 0 then
   (if cdF (cdS vs ars strict d (an4 ⟨vs,ars,[]⟩ s pc)) s.body=0 then cdF (cdS vs ars strict d (an4 ⟨vs,ars,[]⟩ s pc)) s.els else cdF (cdS vs ars strict d (an4 ⟨vs,ars,[]⟩ s pc)) s.body)
  else ad4 ⟨vs,ars,[]⟩ s pc strict
theorem bq5{F:c5->Int}{G:Nat->c5->Int×Nat}(h:∀c s,(G c s).1=F s):∀(ss:List c5) (c:Nat),(G9 G c ss).1=cdF F ss
 |[],_=>rfl
 |s::r,c=>by
  rw[G9,cdF,h]
  split
  ·exact bq5 h r _
  exact h c s
theorem bT4(p:f7)(strict:Bool):∀(d:Nat) (pc:Int) (c:Nat) (s:c5),(stC p strict d pc c s).1=cdS p.vars p.arrays strict d pc s
 |0,_,_,_=>rfl
 | d + 1, pc, c, s => by
  have e1:ad4 p s pc strict=ad4 ⟨p.vars,p.arrays,[]⟩ s pc strict:=rfl
  have e2:an4 p s pc=an4 ⟨p.vars,p.arrays,[]⟩ s pc:=rfl
  have h1:=fun ss c=>bq5 (bT4 p strict d (an4 p s pc)) ss c
  rw[stC,cdS, <-e1, <-e2]
  split
  ·rw[h1]
   split
   ·rw[h1]
   rw[h1]
  rfl
theorem cd2(p:f7)(strict:Bool)(d:Nat)(pc:Int)(c:Nat)(ss:List c5):(y6 p strict d pc c ss).1=cdF (cdS p.vars p.arrays strict d pc) ss:=bq5 (bT4 p strict d pc) ss c
theorem bh2{F:c5->Int}:∀{ss:List c5},cdF F ss=0↔∀s∈ss,F s=0
 |[]=>by simp[cdF]
 | s :: r => by
  rw[cdF]
  by_cases h:F s=0
  ·rw[if_pos h,bh2]
   simp[h]
  rw[if_neg h]
  simp[h]
theorem b17(p:f7)(strict:Bool):(Y6 p strict).1=if m6 p=true then cdF (cdS p.vars p.arrays strict 5 0) p.body else 5:=by
 unfold Y6
 rw[<-cd2 p strict 5 0 0]
 split
 ·split
  ·rename_i h;exact h.symm
  rfl
 rfl
theorem b15(p:f7)(strict:Bool):(Y6 p strict).1=0↔m6 p=true/\∀s∈p.body,cdS p.vars p.arrays strict 5 0 s=0:=by
 rw[b17]
 split
 ·rename_i h;rw[bh2];exact⟨fun h1=>⟨h,h1⟩,fun h1=>h1.2⟩
 rename_i h;exact⟨fun h1=>absurd h1 ak,fun h1=>absurd h1.1 h⟩
section
variable{vs ars:List Int}{l:Int}{s:c5}{pc pd:Int}
end
theorem aB4{p:f7}(h:m6 p=true):p.vars.all i7=true/\p.arrays.all i7=true/\1<=p.vars.length/\p.body.all (j5 p.vars.length p.arrays.length 5)=true:=by
 unfold m6 G2 at h
 simp only[cv4,decide_eq_true_eq]at h
 exact⟨h.1.1.1.1.1.1,h.1.1.1.1.1.2,h.1.1.1.1.2,h.1.2⟩
abbrev nnE:c6:=⟨0,0,[]⟩
abbrev cnE(n:Int):c6:=⟨1,n,[]⟩
abbrev vrE(v:Int):c6:=⟨2,v,[]⟩
abbrev rdE(a:Int)(i:c6):c6:=⟨3,a,[i]⟩
abbrev ak6(i:c6)(k:Int):c6:=⟨9,0,[⟨7,0,[i,cnE 3]⟩,cnE k]⟩
abbrev seE(a b c:c6):c6:=⟨11,0,[a,b,c]⟩
abbrev Z3(v:Int)(e:c6):c5:=⟨1,v,nnE,e,0,[],[]⟩
def D9(m:Int)(e f:c6):c6:=if m<0 then e else seE (vrE m) e f
def rdL(v a:Int)(i:c6):Nat->List c5
 |0=>[Z3 v (rdE a (cnE 0))]
 |k+1=>rdL v a i k++[Z3 v (seE (ak6 i ((k:Int)+1)) (rdE a (cnE ((k:Int)+1))) (vrE v))]
def stL(v t:Int)(i:c6)(m:Int):Nat->List c5
 |0=>[]
 |k+1=>stL v t i m k++[⟨2,t,cnE (k:Int),seE (D9 m (ak6 i (k:Int)) (cnE 0)) (vrE v) (rdE t (cnE (k:Int))),0,[],[]⟩]
abbrev LnS:Type:=List Int×List c5
mutual
def d9(ars:List Int)(pc:Int):c6->LnS->LnS×c6
 | ⟨k, v, ks⟩, s =>
  if k=3/\af2 (i8 (z9 ars pc ks s).1.1 ars 5 (ks.getD 0 cv2))=true then
   (((z9 ars pc ks s).1.1++[l6 (i8 (z9 ars pc ks s).1.1 ars 5 ⟨k,v,ks⟩) pc],(z9 ars pc ks s).1.2++rdL ((z9 ars pc ks s).1.1.length:Int) v (ks.getD 0 cv2) 3),vrE ((z9 ars pc ks s).1.1.length:Int))
  else((z9 ars pc ks s).1,⟨k,v,(z9 ars pc ks s).2⟩)
def z9(ars:List Int)(pc:Int):List c6->LnS->LnS×List c6
 |[],s=>(s,[])
 |e::t,s=>((z9 ars pc t (d9 ars pc e s).1).1,(d9 ars pc e s).2::(z9 ars pc t (d9 ars pc e s).1).2)
end
theorem aP4(ars:List Int)(pc:Int)(e:c6)(s:LnS):d9 ars pc e s=
  if e.kind=3/\af2 (i8 (z9 ars pc e.kids s).1.1 ars 5 (e.kids.getD 0 cv2))=true then
   (((z9 ars pc e.kids s).1.1++[l6 (i8 (z9 ars pc e.kids s).1.1 ars 5 e) pc],(z9 ars pc e.kids s).1.2++rdL ((z9 ars pc e.kids s).1.1.length:Int) e.value (e.kids.getD 0 cv2) 3),vrE ((z9 ars pc e.kids s).1.1.length:Int))
  else((z9 ars pc e.kids s).1,⟨e.kind,e.value,(z9 ars pc e.kids s).2⟩):=by
 cases e;rw[d9];rfl
theorem ay0(ars:List Int)(pc:Int):∀(a b:List c6) (s:LnS),z9 ars pc (a++b) s=((z9 ars pc b (z9 ars pc a s).1).1,(z9 ars pc a s).2++(z9 ars pc b (z9 ars pc a s).1).2)
 |[],b,s=>by simp[z9]
 |e::t,b,s=>by
  simp only[List.cons_append,z9]
  rw[ay0 ars pc t b]
theorem au3{ars:List Int}{pc:Int}{ks:List c6}{k:Nat}{s:LnS}(hk:k<ks.length):z9 ars pc (ks.take (k+1)) s=((d9 ars pc (ks.getD k cv2) (z9 ars pc (ks.take k) s).1).1,(z9 ars pc (ks.take k) s).2++[(d9 ars pc (ks.getD k cv2) (z9 ars pc (ks.take k) s).1).2]):=by
 rw[n6 _ _ hk,ay0,n7 hk]
 simp[z9]
abbrev ifM(x:LnS×c6)(m l:Int):LnS:=(x.1.1++[l]++[l],x.1.2++[Z3 (x.1.1.length:Int) (D9 m x.2 (cnE 0))]++[Z3 ((x.1.1++[l]).length:Int) (D9 m ⟨9,0,[vrE (x.1.1.length:Int),cnE 0]⟩ (cnE 0))])
mutual
def J2(ars:List Int):c5->Int->Int->LnS->LnS
 | ⟨k, t, i, v, c, b, e⟩, m, pc, s =>
  if k=4 then((m8 ars b m pc (s.1,[])).1,s.2++[⟨4,0,nnE,nnE,c,(m8 ars b m pc (s.1,[])).2,[]⟩])
  else if k=3 then
   (if af2 (i8 s.1 ars 5 v)=true then
    m8 ars e (((d9 ars pc v s).1.1++[l6 pc (i8 s.1 ars 5 v)]).length:Int) (l6 pc (i8 s.1 ars 5 v)) (m8 ars b ((d9 ars pc v s).1.1.length:Int) (l6 pc (i8 s.1 ars 5 v)) (ifM (d9 ars pc v s) m (l6 pc (i8 s.1 ars 5 v))))
   else((m8 ars e m (l6 pc (i8 s.1 ars 5 v)) ((m8 ars b m (l6 pc (i8 s.1 ars 5 v)) ((d9 ars pc v s).1.1,[])).1,[])).1,
    (d9 ars pc v s).1.2++[⟨3,0,nnE,(d9 ars pc v s).2,0,(m8 ars b m (l6 pc (i8 s.1 ars 5 v)) ((d9 ars pc v s).1.1,[])).2,(m8 ars e m (l6 pc (i8 s.1 ars 5 v)) ((m8 ars b m (l6 pc (i8 s.1 ars 5 v)) ((d9 ars pc v s).1.1,[])).1,[])).2⟩]))
  else if k=5 then((d9 ars pc v s).1.1,(d9 ars pc v s).1.2++[⟨5,t,nnE,(d9 ars pc v s).2,0,[],[]⟩])
  else if k=1 then((d9 ars pc v s).1.1,(d9 ars pc v s).1.2++[Z3 t (D9 m (d9 ars pc v s).2 (vrE t))])
  else if af2 (i8 (d9 ars pc v s).1.1 ars 5 i)=true then
   ((d9 ars pc v s).1.1++[l6 (i8 (d9 ars pc v s).1.1 ars 5 (d9 ars pc v s).2) pc],(d9 ars pc v s).1.2++[Z3 ((d9 ars pc v s).1.1.length:Int) (d9 ars pc v s).2]++stL ((d9 ars pc v s).1.1.length:Int) t i m 4)
  else((d9 ars pc v s).1.1,(d9 ars pc v s).1.2++[⟨2,t,i,D9 m (d9 ars pc v s).2 (rdE t i),0,[],[]⟩])
def m8(ars:List Int):List c5->Int->Int->LnS->LnS
 |[],_,_,s=>s
 |x::r,m,pc,s=>m8 ars r m pc (J2 ars x m pc s)
end
theorem bd7(ars:List Int)(a b:List c5)(m pc:Int)(s:LnS):m8 ars (a++b) m pc s=m8 ars b m pc (m8 ars a m pc s):=by
 induction a generalizing s with
 |nil=>rfl
 |cons x r ih=>simp only[List.cons_append,m8];exact ih _
theorem bD6{ars:List Int}{ss:List c5}{k:Nat}{m pc:Int}{s:LnS}(hk:k<ss.length):m8 ars (ss.take (k+1)) m pc s=J2 ars (ss.getD k cv2) m pc (m8 ars (ss.take k) m pc s):=by
 rw[n6 _ _ hk,bd7,n7 hk]
 simp[m8]
section
variable{ars:List Int}{s:c5}{m pc:Int}{x:LnS}
theorem ln4(k:s.kind=4):J2 ars s m pc x=((m8 ars s.body m pc (x.1,[])).1,x.2++[⟨4,0,nnE,nnE,s.count,(m8 ars s.body m pc (x.1,[])).2,[]⟩]):=by
 obtain⟨kd,tg,ix,vl,ct,bd,el⟩:=s
 have k:kd=4:=k
 rw[J2,if_pos k];rfl
theorem cj7(k:s.kind=3)(h:af2 (i8 x.1 ars 5 s.value)=true):J2 ars s m pc x=m8 ars s.els (((d9 ars pc s.value x).1.1++[l6 pc (i8 x.1 ars 5 s.value)]).length:Int) (l6 pc (i8 x.1 ars 5 s.value)) (m8 ars s.body ((d9 ars pc s.value x).1.1.length:Int) (l6 pc (i8 x.1 ars 5 s.value)) (ifM (d9 ars pc s.value x) m (l6 pc (i8 x.1 ars 5 s.value)))):=by
 obtain⟨kd,tg,ix,vl,ct,bd,el⟩:=s
 have k:kd=3:=k
 have h:af2 (i8 x.1 ars 5 vl)=true:=h
 rw[J2,if_neg al,if_pos k,if_pos h];rfl
theorem cj8(k:s.kind=3)(h:af2 (i8 x.1 ars 5 s.value)=false):J2 ars s m pc x=((m8 ars s.els m (l6 pc (i8 x.1 ars 5 s.value)) ((m8 ars s.body m (l6 pc (i8 x.1 ars 5 s.value)) ((d9 ars pc s.value x).1.1,[])).1,[])).1,
  (d9 ars pc s.value x).1.2++[⟨3,0,nnE,(d9 ars pc s.value x).2,0,(m8 ars s.body m (l6 pc (i8 x.1 ars 5 s.value)) ((d9 ars pc s.value x).1.1,[])).2,(m8 ars s.els m (l6 pc (i8 x.1 ars 5 s.value)) ((m8 ars s.body m (l6 pc (i8 x.1 ars 5 s.value)) ((d9 ars pc s.value x).1.1,[])).1,[])).2⟩]):=by
 obtain⟨kd,tg,ix,vl,ct,bd,el⟩:=s
 have k:kd=3:=k
 have h:af2 (i8 x.1 ars 5 vl)=false:=h
 rw[J2,if_neg al,if_pos k,if_neg (by rw[h];decide)];rfl
theorem ln5(k:s.kind=5):J2 ars s m pc x=((d9 ars pc s.value x).1.1,(d9 ars pc s.value x).1.2++[⟨5,s.target,nnE,(d9 ars pc s.value x).2,0,[],[]⟩]):=by
 obtain⟨kd,tg,ix,vl,ct,bd,el⟩:=s
 have k:kd=5:=k
 rw[J2,if_neg al,if_neg al,if_pos k];rfl
theorem ln1(k:s.kind=1):J2 ars s m pc x=((d9 ars pc s.value x).1.1,(d9 ars pc s.value x).1.2++[Z3 s.target (D9 m (d9 ars pc s.value x).2 (vrE s.target))]):=by
 obtain⟨kd,tg,ix,vl,ct,bd,el⟩:=s
 have k:kd=1:=k
 rw[J2,if_neg al,if_neg al,if_neg al,if_pos k];rfl
theorem cj9(k:s.kind=2)(h:af2 (i8 (d9 ars pc s.value x).1.1 ars 5 s.index)=true):J2 ars s m pc x=((d9 ars pc s.value x).1.1++[l6 (i8 (d9 ars pc s.value x).1.1 ars 5 (d9 ars pc s.value x).2) pc],(d9 ars pc s.value x).1.2++[Z3 ((d9 ars pc s.value x).1.1.length:Int) (d9 ars pc s.value x).2]++stL ((d9 ars pc s.value x).1.1.length:Int) s.target s.index m 4):=by
 obtain⟨kd,tg,ix,vl,ct,bd,el⟩:=s
 have k:kd=2:=k
 have h:af2 (i8 (d9 ars pc vl x).1.1 ars 5 ix)=true:=h
 rw[J2,if_neg al,if_neg al,if_neg al,if_neg al,if_pos h];rfl
theorem ck0(k:s.kind=2)(h:af2 (i8 (d9 ars pc s.value x).1.1 ars 5 s.index)=false):J2 ars s m pc x=((d9 ars pc s.value x).1.1,(d9 ars pc s.value x).1.2++[⟨2,s.target,s.index,D9 m (d9 ars pc s.value x).2 (rdE s.target s.index),0,[],[]⟩]):=by
 obtain⟨kd,tg,ix,vl,ct,bd,el⟩:=s
 have k:kd=2:=k
 have h:af2 (i8 (d9 ars pc vl x).1.1 ars 5 ix)=false:=h
 rw[J2,if_neg al,if_neg al,if_neg al,if_neg al,if_neg (by rw[h];decide)];rfl
end
theorem H1{nv nw na:Nat}(h:nv<=nw):∀(d:Nat) (e:c6),i5 nv na d e=true->i5 nw na d e=true
 |0,_,hs=>by simp[i5]at hs
 |d+1,e,hs=>by
  simp only[i5,cv4,cw3]at hs ⊢
  refine⟨⟨?_,fun x hx=>H1 h d x (hs.1.2 x hx)⟩,hs.2⟩
  have h1:=hs.1.1
  simp only[U6,cv4,decide_eq_true_eq]at h1 ⊢
  refine⟨h1.1,Int.lt_of_lt_of_le h1.2 ?_⟩
  unfold Y2
  (repeat' split)<;>omega
theorem aN1{nv na:Nat}:∀(d:Nat) (e:c6),i5 nv na d e=true->i5 nv na (d+1) e=true
 |0,_,hs=>by simp[i5]at hs
 |d+1,e,hs=>by
  rw[i5]at hs ⊢
  simp only[cv4,cw3]at hs ⊢
  exact⟨⟨hs.1.1,fun x hx=>aN1 d x (hs.1.2 x hx)⟩,hs.2⟩
theorem ba9{nv na c d:Nat}{e:c6}(h:c<=d)(hs:i5 nv na c e=true):i5 nv na d e=true:=by
 induction d with
 |zero=>rwa[show c=0 by omega]at hs
 |succ d ih=>
  rcases cx7 c (d+1)with hl|hl
  ·exact aN1 d e (ih al)
  rwa[show c=d+1 by omega]at hs
theorem aT6{ars:List Int}{pc:Int}{nv na d:Nat}{e:c6}{s:LnS}(ha:atomB e=true)(hs:i5 nv na d e=true):d9 ars pc e s=(s,e)/\e.kids=[]:=by
 obtain⟨k,v,ks⟩:=e
 cases d with
 |zero=>simp[i5]at hs
 | succ d =>
  have hk:k=1\/k=2:=by
   have h:=ha
   simp only[atomB,cz9,decide_eq_true_eq]at h
   exact h
  have hn:ks=[]:=by
   simp only[i5,U6,cv4,decide_eq_true_eq]at hs
   have h1:=hs.1.1.1.1
   have h2:v5 k=0:=by unfold v5;rw[if_pos hk]
   have h3:(ks.length:Int)=0:=h1.trans h2
   exact cw9 al
  subst hn
  refine⟨?_,rfl⟩
  rw[d9,if_neg al]
  rfl
theorem bc1{nv na d:Nat}{e:c6}(k:e.kind=3)(hs:i5 nv na (d+1) e=true):∃a,e.kids=[a]/\atomB a=true/\i5 nv na d a=true/\a.kids=[]:=by
 obtain⟨kd,v,ks⟩:=e
 have k:kd=3:=k
 subst k
 simp only[i5,U6,cv4,decide_eq_true_eq]at hs
 have h1:(ks.length:Int)=1:=hs.1.1.1.1
 match ks,h1,hs with
 | [a], _, hs =>
  have h2:atomB a=true:=by
   have h:=hs.2
   unfold aF0 at h
   have h:(decide ((3:Int)≠3)||atomB a)=true:=h
   simpa using h
  have h3:i5 nv na d a=true:=cw3.1 hs.1.2 a (cy5.2 rfl)
  exact⟨a,rfl,h2,h3,(aT6 (ars:=[]) (pc:=0) (s:=([],[])) h2 h3).2⟩
theorem bc0{ars:List Int}{pc:Int}{nv na d:Nat}{e:c6}{s:LnS}(k:e.kind=3)(hs:i5 nv na (d+1) e=true):z9 ars pc e.kids s=(s,e.kids):=by
 obtain⟨a,h1,h2,h3,-⟩:=bc1 k hs
 rw[h1]
 have:=aT6 (ars:=ars) (pc:=pc) (s:=s) h2 h3
 simp only[z9,this.1]
structure Grw(nv na d:Nat)(sz:Nat)(s:LnS)(r:LnS):Prop where
 lo:s.1.length<=r.1.length
 hi:r.1.length<=s.1.length+sz
 st:i9 r.2<=i9 s.2+40*sz
 len:s.2.length<=r.2.length
theorem bK9(v a:Int)(i:c6)(hi:i.kids=[]):∀n:Nat,i9 (rdL v a i n)=2+9*n
 |0=>rfl
 |n+1=>by
  have h0:B9 i=0:=by cases i;simp only[c6.kids]at hi;subst hi;rfl
  rw[rdL,y9,bK9 v a i hi n]
  simp[i9,M8,B9,F9,h0];omega
theorem a44(v a:Int)(i:c6):∀n:Nat,(rdL v a i n).length=n+1
 |0=>rfl
 |n+1=>by rw[rdL,cv9,a44 v a i n];rfl
theorem bu7(v t:Int)(i:c6)(m:Int):∀n:Nat,(stL v t i m n).length=n
 |0=>rfl
 |n+1=>by rw[stL,cv9,bu7 v t i m n];rfl
theorem ai4(m:Int)(e f:c6):B9 (D9 m e f)<=3+B9 e+B9 f:=by
 unfold D9;split
 ·omega
 simp[B9,F9];omega
theorem bJ0(v t:Int)(i:c6)(m:Int)(hi:i.kids=[]):∀n:Nat,i9 (stL v t i m n)<=20*n
 |0=>cv7 _
 |n+1=>by
  have h0:B9 i=0:=by cases i;simp only[c6.kids]at hi;subst hi;rfl
  have h1:=bJ0 v t i m hi n
  have h2:=ai4 m (ak6 i (n:Int)) (cnE 0)
  have h3:B9 (ak6 i (n:Int))=4:=by simp[B9,F9,h0]
  have h4:B9 (cnE 0)=0:=rfl
  rw[stL,y9]
  simp only[i9,M8,B9,F9]
  omega
theorem bA3{nv na d:Nat}{v:Nat}(h:v<nv):i5 nv na (d+1) (vrE (v:Int))=true:=by
 simp[i5,U6,aF0,v5,Y2,c6.kids,c6.kind,c6.value,h]
theorem bw9{ars:List Int}{pc:Int}{na d:Nat}(hg:∀(e:c6) (s:LnS),i5 s.1.length na d e=true->Grw s.1.length na d (1+B9 e) s (d9 ars pc e s).1/\i5 (d9 ars pc e s).1.1.length na d (d9 ars pc e s).2=true/\B9 (d9 ars pc e s).2<=B9 e):
  ∀(ks:List c6) (s:LnS),(∀x∈ks,i5 s.1.length na d x=true)->Grw s.1.length na d (F9 ks) s (z9 ars pc ks s).1/\(∀x∈(z9 ars pc ks s).2,i5 (z9 ars pc ks s).1.1.length na d x=true)/\F9 (z9 ars pc ks s).2<=F9 ks/\(z9 ars pc ks s).2.length=ks.length:=by
 intro ks
 induction ks with
 |nil=>intro s _;exact⟨⟨cv7 _,cv7 _,cv7 _,cv7 _⟩,fun x hx=>(by cases hx),cv7 _,rfl⟩
 | cons x r ih =>
  intro s h
  obtain⟨g1,g2,g3⟩:=hg x s (h x cz6)
  obtain⟨k1,k2,k3,k4⟩:=ih (d9 ars pc x s).1 fun y hy=>H1 g1.lo d y (h y (cz4 _ hy))
  simp only[z9,F9]
  refine⟨⟨cx8 g1.lo k1.lo,?_,?_,cx8 g1.len k1.len⟩,?_,?_,?_⟩
  ·have:=g1.hi;have:=k1.hi;omega
  ·have:=g1.st;have:=k1.st;omega
  ·intro y hy
   rcases cz2.1 hy with rfl|hy
   ·exact H1 k1.lo d _ g2
   exact k2 y hy
  ·omega
  simp[k4]
theorem ap4(ars:List Int)(pc:Int)(na:Nat):∀(d:Nat) (e:c6) (s:LnS),i5 s.1.length na d e=true->
  Grw s.1.length na d (1+B9 e) s (d9 ars pc e s).1/\i5 (d9 ars pc e s).1.1.length na d (d9 ars pc e s).2=true/\B9 (d9 ars pc e s).2<=B9 e
 |0,_,_,hs=>by simp[i5]at hs
 | d + 1, e, s, hs => by
  have key:=bw9 (ars:=ars) (pc:=pc) (na:=na) (d:=d) fun e s h=>ap4 ars pc na d e s h
  have hs0:=hs
  rw[i5]at hs
  simp only[cv4,cw3]at hs
  obtain⟨g1,g2,g3,g4⟩:=key e.kids s hs.1.2
  rw[aP4]
  split
  ·rename_i h
   obtain⟨a,h1,h2,h3,h4⟩:=bc1 h.1 hs0
   have hz:B9 e=1:=by
    rw[N5,h1]
    have:B9 a=0:=by rw[N5,h4];rfl
    simp[F9,this]
   have hr:=bc0 (ars:=ars) (pc:=pc) (s:=s) h.1 hs0
   have e0:e.kids.getD 0 cv2=a:=by rw[h1];rfl
   rw[hr,e0]
   refine⟨⟨?_,?_,?_,?_⟩,?_,?_⟩
   ·simp
   ·simp
   ·simp only[y9,bK9 _ _ a h4];omega
   ·simp
   ·have:i5 (s.1.length+1) na (d+1) (vrE (s.1.length:Int))=true:=bA3 al
    simpa using this
   exact cy4 _
  rename_i h
  refine⟨⟨g1.lo,?_,?_,g1.len⟩,?_,?_⟩
  ·have:=g1.hi;rw[N5];show(z9 ars pc e.kids s).1.1.length<=_;omega
  ·have:=g1.st;rw[N5];show i9 (z9 ars pc e.kids s).1.2<=_;omega
  ·rw[i5]
   simp only[cv4,cw3]
   refine⟨⟨?_,g2⟩,?_⟩
   ·have h1:=hs.1.1
    simp only[U6,cv4,decide_eq_true_eq]at h1 ⊢
    refine⟨⟨?_,h1.1.2⟩,Int.lt_of_lt_of_le h1.2 ?_⟩
    ·show(((z9 ars pc e.kids s).2.length:Nat):Int)=v5 e.kind
     rw[g4];exact h1.1.1
    show Y2 s.1.length na e.kind<=Y2 (z9 ars pc e.kids s).1.1.length na e.kind
    have:=g1.lo
    unfold Y2
    (repeat' split)<;>omega
   by_cases k:e.kind=3
   ·rw[bc0 (ars:=ars) (pc:=pc) (s:=s) k hs0]
    show aF0 ⟨e.kind,e.value,e.kids⟩=true
    rw[c6.eta];exact hs.2
   unfold aF0;rw[cz9];exact .inl (decide_eq_true k)
  rw[N5 e];exact g3
end Go.Proofs.YtfbeblgnjeokaaaGreat
