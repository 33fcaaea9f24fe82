/- Part 6: functions on the way, plain laws. Conditions: as said. -/
import Derived.Test.YtfbeblgnjeokaaaGreatK1
import Derived.Test.YtfbeblgnjeokaaaGreatK4
import Derived.Test.YtfbeblgnjeokaaaGreatK5
set_option maxRecDepth 100000
set_option maxHeartbeats 16000000
set_option linter.unusedVariables false
set_option linter.unusedSimpArgs false
open Bool renaming and_eq_true → cm9, not_eq_false' → cp7, not_eq_true' → co9, or_eq_true → cr2
open Inhabited renaming default → cm7
open Int renaming mul_le_mul_of_nonneg_right → cr8
open List renaming all_eq_true → cn8, append_assoc → cr6, eq_nil_of_length_eq_zero → co7, getD_eq_getElem?_getD → cn2, getElem?_append_left → co2, getElem?_append_right → cp9, getElem?_eq_getElem → cn0, getElem?_eq_none → cp0, getElem?_replicate → cr1, getElem?_set → cr5, getElem_mem → co6, length_append → cn3, length_cons → cn6, length_nil → co1, length_replicate → co5, length_set → cp3, map_cons → cq5, mem_append → cp2, mem_cons → cq9, mem_cons_of_mem → cq8, mem_cons_self → cr0, mem_range → cq6, mem_singleton → cq2, range → co4, replicate → cm8, take → cn7, take_of_length_le → co3
open Nat renaming le_refl → cn4, le_trans → cp4, lt_or_ge → cp1, zero_le → cp5
open True renaming intro → co8

namespace Go.Proofs.YtfbeblgnjeokaaaGreat
open Go Go.RowKit
def G0(F:Nat->c5->Int×Nat):Nat->List c5->Int×Nat
 |c,[]=>(0,c)
 |c,s::r=>if(F c s).1=0 then G0 F (F c s).2 r else F c s
def al3(p:i7)(s:c5)(pc:Int):Int:=if s.kind=3 then l5 pc (m8 p s.value)else pc
def stC(p:i7)(strict:Bool):Nat->Int->Nat->c5->Int×Nat
  |0,_,c,_=>(0,c)
  | d + 1, pc, c, s => if ab8 p s pc strict = 0 then
      (if(G0 (stC p strict d (al3 p s pc)) (c+1) s.body).1=0 then G0 (stC p strict d (al3 p s pc)) (G0 (stC p strict d (al3 p s pc)) (c+1) s.body).2 s.els
       else G0 (stC p strict d (al3 p s pc)) (c+1) s.body)
    else(ab8 p s pc strict,c)
abbrev x8(p:i7)(strict:Bool)(d:Nat)(pc:Int)(c:Nat)(ss:List c5):Int×Nat:=G0 (stC p strict d pc) c ss
theorem ag5(F:Nat->c5->Int×Nat):∀(a b:List c5) (c:Nat),G0 F c (a++b)=if(G0 F c a).1=0 then G0 F (G0 F c a).2 b else G0 F c a
 |[],b,c=>by simp[G0]
 |x::r,b,c=>by
  simp only[List.cons_append,G0]
  by_cases h:(F c x).1=0
  ·simp only[h,if_true];exact ag5 F r b _
  simp[h]
theorem ab5{F:Nat->c5->Int×Nat}{c k:Nat}{ss:List c5}(h:(G0 F c (ss.take k)).1=0)(hk:k<ss.length):G0 F c (ss.take (k+1))=F (G0 F c (ss.take k)).2 (ss.getD k cm7):=by
 rw[n7 _ _ hk,ag5,if_pos h,m6 hk]
 simp only[G0]
 split
 ·rename_i h;exact Prod.ext h.symm rfl
 rfl
theorem G6{F:Nat->c5->Int×Nat}{c k:Nat}{ss:List c5}(h:(G0 F c (ss.take k)).1=0)(hk:k<ss.length)(hf:¬(F (G0 F c (ss.take k)).2 (ss.getD k cm7)).1=0):G0 F c ss=F (G0 F c (ss.take k)).2 (ss.getD k cm7):=by
 conv=>lhs;rw[<-List.take_append_drop (k+1) ss]
 rw[ag5,ab5 h hk,if_neg hf]
theorem aM9{F:Nat->c5->Int×Nat}{c k:Nat}{ss:List c5}(hk:ss.length<=k):G0 F c ss=G0 F c (ss.take k):=by rw[co3 hk]
theorem av8{F:Nat->c5->Int×Nat}(hF:∀c s,(F c s).2<=c+nS s):∀(ss:List c5) (c:Nat),(G0 F c ss).2<=c+X3 ss
 |[],c=>by simp[G0]
 |s::r,c=>by
  simp only[G0,X3]
  have h1:=hF c s
  have h2:=av8 hF r (F c s).2
  split<;>omega
theorem bd5{p:i7}{strict:Bool}:∀(d:Nat) (pc:Int) (c:Nat) (s:c5),(stC p strict d pc c s).2<=c+nS s
 |0,_,c,s=>by simp[stC]
 |d+1,pc,c,s=>by
  have hs:=ay8 s
  have h1:=av8 (bd5 (p:=p) (strict:=strict) d (al3 p s pc)) s.body (c+1)
  have h2:=av8 (bd5 (p:=p) (strict:=strict) d (al3 p s pc)) s.els (G0 (stC p strict d (al3 p s pc)) (c+1) s.body).2
  rw[stC]
  split
  ·split<;>omega
  simp only;omega
theorem bk0{p:i7}{strict:Bool}{d:Nat}{pc:Int}{c:Nat}{ss:List c5}:(x8 p strict d pc c ss).2<=c+X3 ss:=av8 (bd5 d pc) ss c
theorem U4{nv na d k:Nat}{ss:List c5}(hs:ss.all (j6 nv na (d+1))=true)(hk:k<ss.length):F0 nv na (ss.getD k cm7)=true/\(ss.getD k cm7).body.all (j6 nv na d)=true/\(ss.getD k cm7).els.all (j6 nv na d)=true:=by
 have h:=cn8.1 hs _ (co6 hk)
 rw[U8,cm9,cm9]at h
 rw[m6 hk];exact h
theorem bW4{k:Nat}{ss:List c5}(hk:k<ss.length):X3 (ss.take k)+(1+X3 (ss.getD k cm7).body+X3 (ss.getD k cm7).els)<=X3 ss:=by
 have h1:=bu2 hk
 have h2:=a64 ss (k+1)
 rw[ay8]at h1
 rw[m6 hk];omega
section
variable{p:i7}{strict:Bool}{d c:Nat}{pc:Int}{s:c5}
theorem aE8(h:¬ab8 p s pc strict=0):stC p strict (d+1) pc c s=(ab8 p s pc strict,c):=by rw[stC,if_neg h]
theorem W7{x:Int}(h:ab8 p s pc strict=0)(hx:al3 p s pc=x)(h2:¬(x8 p strict d x (c+1) s.body).1=0):stC p strict (d+1) pc c s=x8 p strict d x (c+1) s.body:=by
 subst hx;rw[stC,if_pos h,if_neg h2]
theorem P6{x:Int}(h:ab8 p s pc strict=0)(hx:al3 p s pc=x)(h2:(x8 p strict d x (c+1) s.body).1=0):stC p strict (d+1) pc c s=x8 p strict d x (x8 p strict d x (c+1) s.body).2 s.els:=by
 subst hx;rw[stC,if_pos h,if_pos h2]
theorem ad6(k:s.kind=3):al3 p s pc=l5 pc (m8 p s.value):=if_pos k
theorem ad5(k:¬s.kind=3):al3 p s pc=pc:=if_neg k
end
theorem aO4{p:i7}{strict:Bool}{d k c:Nat}{pc:Int}{ss:List c5}(hc:c+X3 ss<=4000000)(hk:k<ss.length):(x8 p strict (d+1) pc c (ss.take k)).2+1+X3 (ss.getD k cm7).body<=4000000:=by
 have h1:=bW4 (k:=k) (ss:=ss) hk
 have h2:=bk0 (p:=p) (strict:=strict) (d:=d+1) (pc:=pc) (c:=c) (ss:=ss.take k)
 omega
theorem aU6{p:i7}{strict:Bool}{d k c:Nat}{pc x:Int}{ss:List c5}(hc:c+X3 ss<=4000000)(hk:k<ss.length):(x8 p strict d x ((x8 p strict (d+1) pc c (ss.take k)).2+1) (ss.getD k cm7).body).2+X3 (ss.getD k cm7).els<=4000000:=by
 have h1:=bW4 (k:=k) (ss:=ss) hk
 have h2:=bk0 (p:=p) (strict:=strict) (d:=d+1) (pc:=pc) (c:=c) (ss:=ss.take k)
 have h3:=bk0 (p:=p) (strict:=strict) (d:=d) (pc:=x) (c:=(x8 p strict (d+1) pc c (ss.take k)).2+1) (ss:=(ss.getD k cm7).body)
 omega
theorem bS9{p:i7}{strict:Bool}{d k c:Nat}{pc:Int}{ss:List c5}(hc:c+X3 ss<=4000000)(hk:k<ss.length):IntKind.i64.wrap (((x8 p strict (d+1) pc c (ss.take k)).2:Int)+1)=((x8 p strict (d+1) pc c (ss.take k)).2:Int)+1:=by
 have h1:=aO4 (p:=p) (strict:=strict) (d:=d) (pc:=pc) hc hk
 exact w64 al al
abbrev bS8(p:i7)(d:Nat)(ss:List c5)(pc:Int)(c:Nat)(strict:Bool):j7:=T7 176 [pA 0,.ref 3,iA pc,iA c,bA strict] (pS p++[.dat (.stmts ss)]) (.tup [iA (x8 p strict d pc c ss).1,iA (x8 p strict d pc c ss).2])
theorem bj3(p:i7)(pc:Int)(c:Nat)(strict:Bool):j7.ok Tryz.prog (bS8 p 0 [] pc c strict):=by
 refine H9 74 Tryz.func176 [dI p.vars,dI p.arrays,dT p.body,dT []] [(0,pA 0),(1,.ref 3),(2,iA pc),(3,iA c),(4,bA strict)] fun G=>?_;refine wp_seq (j9 G f8 (rg 5) [dI p.vars,dI p.arrays,dT p.body,dT [],.box (pL 0)] [(1,.ref 3),(2,iA pc),(3,iA c),(4,bA strict),(5,.ptr 4 0),(10,iA 0),(11,iA 0)] fun G=>b6 (wp_seq (wp_seq (E8 G f8 [(1,.ref 3),(2,iA pc),(3,iA c),(4,bA strict),(5,.ptr 4 0),(10,iA 0),(11,iA 0),(12,iA 0)] fun G=>b6 (wp_block ?_)))));refine t9 (κ:=Nat) (fun k=>k=0) (fun k=>0) (fun k=>[dI p.vars,dI p.arrays,dT p.body,dT [],.box (pL 0)]) (fun k=>[(1,.ref 3),(2,iA pc),(3,iA c),(4,bA strict),(5,.ptr 4 0),(10,iA 0),(11,iA 0),(12,iA 0)]) 0 aj (v9.at G _ _) ?_;clear G;intro k ρ a w hp G;refine wp_seq (wp_seq (l6 G f8 [(19,bA false)] fun G=>b6 (rF G false aj (wp_exit (t7 (t7 (t5 (b6 (wp_seq (j9 G f8 (rg 4) [dI p.vars,dI p.arrays,dT p.body,dT []] [(10,iA 0),(11,iA c)] fun G=>b6 (wp_ret ?_)))))))))));exact O7 G (rg 4)
abbrev ap3(p:i7)(d:Nat)(strict:Bool)(ss:List c5)(pc:Int)(c:Nat)(k:Nat):=x8 p strict d (l5 pc (m8 p (ss.getD k cm7).value)) ((x8 p strict (d+1) pc c (cn7 k ss)).snd+1) (ss.getD k cm7).body
abbrev ac1(p:i7)(d:Nat)(strict:Bool)(ss:List c5)(pc:Int)(c:Nat)(k:Nat):=x8 p strict d pc ((x8 p strict (d+1) pc c (cn7 k ss)).snd+1) (ss.getD k cm7).body
abbrev a24(p:i7)(d:Nat)(strict:Bool)(ss:List c5)(pc:Int)(c:Nat)(k:Nat):=x8 p strict d (l5 pc (m8 p (ss.getD k cm7).value)) (ap3 p d strict ss pc c k).snd (ss.getD k cm7).els
abbrev aQ7(strict:Bool)(k:Nat)(r0:List (Nat×AV)):List (Nat×AV):=(4,bA strict)::(5,.ptr 4 0)::(10,iA 0)::(11,iA 0)::(12,iA (k:Int))::r0
abbrev aG6(p:i7)(ss:List c5)(r0:List It):List It:=dI p.vars::dI p.arrays::dT p.body::dT ss::.box (pL 0)::r0
theorem bj1(p:i7)(d:Nat)(strict:Bool)(ih:∀(ss:List c5) (pc:Int) (c:Nat),ss.all (j6 p.vars.length p.arrays.length d)=true->c+X3 ss<=4000000->j7.ok Tryz.prog (bS8 p d ss pc c strict))
    (ss:List c5) (pc:Int) (c:Nat) (hs:ss.all (j6 p.vars.length p.arrays.length (d+1))=true) (hc:c+X3 ss<=4000000):j7.ok Tryz.prog (bS8 p (d+1) ss pc c strict):=by
  refine H9 74 Tryz.func176 [dI p.vars,dI p.arrays,dT p.body,dT ss] [(0,pA 0),(1,.ref 3),(2,iA pc),(3,iA c),(4,bA strict)] fun G=>?_;have hlen:ss.length<=9223372036854775807:=G.len 3 (d:=.stmts ss) aj;refine wp_seq (j9 G f8 (rg 5) (aG6 p ss []) [(1,.ref 3),(2,iA pc),(3,iA c),(4,bA strict),(5,.ptr 4 0),(10,iA 0),(11,iA 0)] fun G=>b6 (wp_seq (wp_seq (E8 G f8 [(1,.ref 3),(2,iA pc),(3,iA c),(4,bA strict),(5,.ptr 4 0),(10,iA 0),(11,iA 0),(12,iA 0)] fun G=>b6 (wp_block ?_)))));refine t9 (κ:=Nat) (fun k=>k<=ss.length/\(x8 p strict (d+1) pc c (ss.take k)).1=0) (fun k=>ss.length-k) (fun k=>[dI p.vars,dI p.arrays,dT p.body,dT ss,.box (pL 0)]) (fun k=>[(1,.ref 3),(2,iA pc),(3,iA (x8 p strict (d+1) pc c (ss.take k)).2),(4,bA strict),(5,.ptr 4 0),(10,iA 0),(11,iA 0),(12,iA k)]) 0 (⟨cp5 _,rfl⟩) (v9.at G _ _) ?_;clear G;intro k ρ a w hp G;replace G:=v9.at G (aG6 p ss []) ((1,.ref 3)::(2,iA pc)::(3,iA ((x8 p strict (d+1) pc c (cn7 k ss)).snd:Int))::(aQ7 strict k []));refine wp_seq (wp_seq (l6 G f8 [(19,bA (decide ((k:Int)<ss.length)))] fun G=>b6 (rcD G (fun h0 q0=>?_) fun h0 q0=>?_)))
  · refine wp_exit (t7 (t7 (t5 (b6 (wp_seq (j9 G f8 (rg 4) [dI p.vars,dI p.arrays,dT p.body,dT ss] [(10,iA 0),(11,iA ((x8 p strict (d+1) pc c (cn7 k ss)).snd:Int))] fun G=>b6 (wp_ret ?_)))))));exact Y0 (.tup [iA 0,iA ((x8 p strict (d+1) pc c (cn7 k ss)).snd:Int)]) G (rg 4) (by have e1:((x8 p strict (d+1) pc c ss).fst:Int)=(0):=(by rw[x8,aM9 (k:=k) al];exact hp.2);have e2:(((x8 p strict (d+1) pc c ss).snd:Int):Int)=(((x8 p strict (d+1) pc c (cn7 k ss)).snd:Int)):=(by rw[x8,aM9 (k:=k) al]);(first|rw[e1,e2]|simp only[e1,e2])<;>rfl)
  refine wp_skip (b6 (wp_seq (wp_block (wp_seq (Z5 G f8 [0,1,2,3,4,29,30,31,32,37] (aG6 p ss [dE (ss.getD k cm7).index.kids,dE (ss.getD k cm7).value.kids,dT (ss.getD k cm7).body,dT (ss.getD k cm7).els,.box (sL (ss.getD k cm7) 5)]) ((1,.ref 3)::(2,iA pc)::(3,iA ((x8 p strict (d+1) pc c (cn7 k ss)).snd:Int))::(aQ7 strict k [(13,.ptr 9 0)])) (iX k k ss.length []) (iK al co8) fun G=>b6 (wp_seq (l6 G (v8 4 [0,1,2,5,6,7,8] (bS5 p (ss.getD k cm7) pc strict ((U4 hs al).1))) [(14,iA (ab8 p (ss.getD k cm7) pc strict))] fun G=>b6 (wp_seq (wp_seq (l6 G f8 [(32,bA (ab8 p (ss.getD k cm7) pc strict !=0))] fun G=>b6 (rcN G (fun h1 q1=>?_) fun h1 q1=>?_)))))))))))
  ·
   refine wp_skip (b6 (wp_seq (M8 G f8 [(3,iA (((x8 p strict (d+1) pc c (cn7 k ss)).snd:Int)+1))] [wO (((x8 p strict (d+(1:Nat)) pc c (cn7 k ss)).snd:Int)+1)] ⟨(bS9 hc al),co8⟩ fun G=>b6 (wp_seq (l6 G f8 [(15,iA pc)] fun G=>b6 (wp_seq (wp_seq (l6 G f8 [(40,bA ((ss.getD k cm7).kind==3))] fun G=>b6 (Q7 G (fun h2 q2=>?_) fun h2 q2=>?_)))))))))
   ·
    refine wp_skip (b6 (wp_seq (l6 G (v8 6 [0,1,2,7] (ih ((ss.getD k cm7).body) pc ((x8 p strict (d+1) pc c (cn7 k ss)).snd+1) ((U4 hs al).2.1) (aO4 hc al))) [(3,iA ((ac1 p d strict ss pc c k).snd:Int)),(14,iA (ac1 p d strict ss pc c k).fst)] fun G=>b6 (wp_seq (wp_seq (l6 G f8 [(58,bA ((ac1 p d strict ss pc c k).fst==0))] fun G=>b6 (Q7 (u:=((x8 p strict d pc ((x8 p strict (d+(1:Nat)) pc c (cn7 k ss)).snd+(1:Nat)) (ss.getD k cm7).body).fst)) (v:=(0:Int)) G (fun h3 q3=>?_) fun h3 q3=>?_)))))))
    ·
     refine wp_skip (b6 (wp_seq (j9 G f8 (rg 5) (aG6 p ss []) ((1,.ref 3)::(2,iA pc)::(3,iA ((ac1 p d strict ss pc c k).snd:Int))::(aQ7 strict k [(14,iA (ac1 p d strict ss pc c k).fst),(70,bA ((ac1 p d strict ss pc c k).fst !=0))])) fun G=>b6 ?_)));cases h4:((x8 p strict d pc ((x8 p strict (d+(1:Nat)) pc c (cn7 k ss)).snd+(1:Nat)) (ss.getD k cm7).body).fst !=0)
     · have q4:=bne_eq_false_iff_eq.1 h4;exact False.elim al
     have q4:=bne_iff_ne.1 h4;refine rT G _ h4 (wp_seq (l6 G f8 [(10,iA (ac1 p d strict ss pc c k).fst),(11,iA ((ac1 p d strict ss pc c k).snd:Int))] fun G=>b6 (wp_ret (A3 (l0 (l0 (A3 (l0 ?_))))))));exact Y0 (.tup [iA (x8 p strict d pc ((x8 p strict (d+1) pc c (cn7 k ss)).snd+1) (ss.getD k cm7).body).fst,iA ((x8 p strict d pc ((x8 p strict (d+1) pc c (cn7 k ss)).snd+1) (ss.getD k cm7).body).snd:Int)]) G (rg 4) (by have e1:((x8 p strict (d+1) pc c ss).fst:Int)=((x8 p strict d pc ((x8 p strict (d+1) pc c (cn7 k ss)).snd+1) (ss.getD k cm7).body).fst):=(by rw[x8,G6 hp.2 al (by rw[W7 ab (ad5 ab) ab];with_reducible assumption),W7 ab (ad5 ab) ab]);have e2:(((x8 p strict (d+1) pc c ss).snd:Int):Int)=(((x8 p strict d pc ((x8 p strict (d+1) pc c (cn7 k ss)).snd+1) (ss.getD k cm7).body).snd:Int)):=(by rw[x8,G6 hp.2 al (by rw[W7 ab (ad5 ab) ab];with_reducible assumption),W7 ab (ad5 ab) ab]);(first|rw[e1,e2]|simp only[e1,e2])<;>rfl)
    refine j9 G (v8 6 [0,1,2,8] (ih ((ss.getD k cm7).els) pc ((ac1 p d strict ss pc c k).snd) ((U4 hs al).2.2) (aU6 hc al))) (rg 5) (aG6 p ss []) ((1,.ref 3)::(2,iA pc)::(3,iA ((x8 p strict d pc (ac1 p d strict ss pc c k).snd (ss.getD k cm7).els).snd:Int))::(aQ7 strict k [(14,iA (x8 p strict d pc (ac1 p d strict ss pc c k).snd (ss.getD k cm7).els).fst)])) fun G=>b6 (wp_seq (l6 G f8 [(70,bA ((x8 p strict d pc (ac1 p d strict ss pc c k).snd (ss.getD k cm7).els).fst !=0))] fun G=>b6 (rcN (u:=((x8 p strict d pc (x8 p strict d pc ((x8 p strict (d+(1:Nat)) pc c (cn7 k ss)).snd+(1:Nat)) (ss.getD k cm7).body).snd (ss.getD k cm7).els).fst)) (v:=(0:Int)) G (fun h5 q5=>?_) fun h5 q5=>?_)))
    · refine wp_skip (n4 (b6 (M8 G f8 [(12,iA ((k:Int)+1))] [wO ((k:Int)+1)] (o1 al) fun G=>b6 ?_)));exact R2 G (k+1) (⟨al,by rw[x8,ab5 hp.2 al,P6 ab (ad5 ab) ab];with_reducible assumption⟩) al (rg 5) (ht:=by have e1:(((x8 p strict (d+1) pc c (cn7 (k+1) ss)).snd:Int):Int)=(((x8 p strict d pc (x8 p strict d pc ((x8 p strict (d+1) pc c (cn7 k ss)).snd+1) (ss.getD k cm7).body).snd (ss.getD k cm7).els).snd:Int)):=(by rw[x8,ab5 hp.2 al,P6 ab (ad5 ab) ab]);(first|rw[e1]|simp only[e1])<;>rfl)
    refine wp_seq (l6 G f8 [(10,iA (x8 p strict d pc (ac1 p d strict ss pc c k).snd (ss.getD k cm7).els).fst),(11,iA ((x8 p strict d pc (ac1 p d strict ss pc c k).snd (ss.getD k cm7).els).snd:Int))] fun G=>b6 (wp_ret (A3 (l0 (l0 (A3 (l0 ?_)))))));exact Y0 (.tup [iA (x8 p strict d pc (x8 p strict d pc ((x8 p strict (d+1) pc c (cn7 k ss)).snd+1) (ss.getD k cm7).body).snd (ss.getD k cm7).els).fst,iA ((x8 p strict d pc (x8 p strict d pc ((x8 p strict (d+1) pc c (cn7 k ss)).snd+1) (ss.getD k cm7).body).snd (ss.getD k cm7).els).snd:Int)]) G (rg 4) (by have e1:((x8 p strict (d+1) pc c ss).fst:Int)=((x8 p strict d pc (x8 p strict d pc ((x8 p strict (d+1) pc c (cn7 k ss)).snd+1) (ss.getD k cm7).body).snd (ss.getD k cm7).els).fst):=(by rw[x8,G6 hp.2 al (by rw[P6 ab (ad5 ab) ab];with_reducible assumption),P6 ab (ad5 ab) ab]);have e2:(((x8 p strict (d+1) pc c ss).snd:Int):Int)=(((x8 p strict d pc (x8 p strict d pc ((x8 p strict (d+1) pc c (cn7 k ss)).snd+1) (ss.getD k cm7).body).snd (ss.getD k cm7).els).snd:Int)):=(by rw[x8,G6 hp.2 al (by rw[P6 ab (ad5 ab) ab];with_reducible assumption),P6 ab (ad5 ab) ab]);(first|rw[e1,e2]|simp only[e1,e2])<;>rfl)
   refine l6 G (v8 4 [0,1,2,6] (O3 p ((ss.getD k cm7).value) (B6 (U4 hs al).1 al))) [(15,iA (l5 pc (m8 p (ss.getD k cm7).value)))] fun G=>b6 (wp_seq (l6 G (v8 6 [0,1,2,7] (ih ((ss.getD k cm7).body) (l5 pc (m8 p (ss.getD k cm7).value)) ((x8 p strict (d+1) pc c (cn7 k ss)).snd+1) ((U4 hs al).2.1) (aO4 hc al))) [(3,iA ((ap3 p d strict ss pc c k).snd:Int)),(14,iA (ap3 p d strict ss pc c k).fst)] fun G=>b6 (wp_seq (wp_seq (l6 G f8 [(58,bA ((ap3 p d strict ss pc c k).fst==0))] fun G=>b6 (Q7 (u:=((x8 p strict d (l5 pc (m8 p (ss.getD k cm7).value)) ((x8 p strict (d+(1:Nat)) pc c (cn7 k ss)).snd+(1:Nat)) (ss.getD k cm7).body).fst)) (v:=(0:Int)) G (fun h6 q6=>?_) fun h6 q6=>?_))))))
   ·
    refine wp_skip (b6 (wp_seq (j9 G f8 (rg 5) (aG6 p ss []) ((1,.ref 3)::(2,iA pc)::(3,iA ((ap3 p d strict ss pc c k).snd:Int))::(aQ7 strict k [(14,iA (ap3 p d strict ss pc c k).fst),(70,bA ((ap3 p d strict ss pc c k).fst !=0))])) fun G=>b6 ?_)));cases h7:((x8 p strict d (l5 pc (m8 p (ss.getD k cm7).value)) ((x8 p strict (d+(1:Nat)) pc c (cn7 k ss)).snd+(1:Nat)) (ss.getD k cm7).body).fst !=0)
    · have q7:=bne_eq_false_iff_eq.1 h7;exact False.elim al
    have q7:=bne_iff_ne.1 h7;refine rT G _ h7 (wp_seq (l6 G f8 [(10,iA (ap3 p d strict ss pc c k).fst),(11,iA ((ap3 p d strict ss pc c k).snd:Int))] fun G=>b6 (wp_ret (A3 (l0 (l0 (A3 (l0 ?_))))))));exact Y0 (.tup [iA (x8 p strict d (l5 pc (m8 p (ss.getD k cm7).value)) ((x8 p strict (d+1) pc c (cn7 k ss)).snd+1) (ss.getD k cm7).body).fst,iA ((x8 p strict d (l5 pc (m8 p (ss.getD k cm7).value)) ((x8 p strict (d+1) pc c (cn7 k ss)).snd+1) (ss.getD k cm7).body).snd:Int)]) G (rg 4) (by have e1:((x8 p strict (d+1) pc c ss).fst:Int)=((x8 p strict d (l5 pc (m8 p (ss.getD k cm7).value)) ((x8 p strict (d+1) pc c (cn7 k ss)).snd+1) (ss.getD k cm7).body).fst):=(by rw[x8,G6 hp.2 al (by rw[W7 ab (ad6 ab) ab];with_reducible assumption),W7 ab (ad6 ab) ab]);have e2:(((x8 p strict (d+1) pc c ss).snd:Int):Int)=(((x8 p strict d (l5 pc (m8 p (ss.getD k cm7).value)) ((x8 p strict (d+1) pc c (cn7 k ss)).snd+1) (ss.getD k cm7).body).snd:Int)):=(by rw[x8,G6 hp.2 al (by rw[W7 ab (ad6 ab) ab];with_reducible assumption),W7 ab (ad6 ab) ab]);(first|rw[e1,e2]|simp only[e1,e2])<;>rfl)
   refine j9 G (v8 6 [0,1,2,8] (ih ((ss.getD k cm7).els) (l5 pc (m8 p (ss.getD k cm7).value)) ((ap3 p d strict ss pc c k).snd) ((U4 hs al).2.2) (aU6 hc al))) (rg 5) (aG6 p ss []) ((1,.ref 3)::(2,iA pc)::(3,iA ((a24 p d strict ss pc c k).snd:Int))::(aQ7 strict k [(14,iA (a24 p d strict ss pc c k).fst)])) fun G=>b6 (wp_seq (l6 G f8 [(70,bA ((a24 p d strict ss pc c k).fst !=0))] fun G=>b6 (rcN (u:=((x8 p strict d (l5 pc (m8 p (ss.getD k cm7).value)) (x8 p strict d (l5 pc (m8 p (ss.getD k cm7).value)) ((x8 p strict (d+(1:Nat)) pc c (cn7 k ss)).snd+(1:Nat)) (ss.getD k cm7).body).snd (ss.getD k cm7).els).fst)) (v:=(0:Int)) G (fun h8 q8=>?_) fun h8 q8=>?_)))
   · refine wp_skip (n4 (b6 (M8 G f8 [(12,iA ((k:Int)+1))] [wO ((k:Int)+1)] (o1 al) fun G=>b6 ?_)));exact R2 G (k+1) (⟨al,by rw[x8,ab5 hp.2 al,P6 ab (ad6 ab) ab];with_reducible assumption⟩) al (rg 5) (ht:=by have e1:(((x8 p strict (d+1) pc c (cn7 (k+1) ss)).snd:Int):Int)=(((x8 p strict d (l5 pc (m8 p (ss.getD k cm7).value)) (x8 p strict d (l5 pc (m8 p (ss.getD k cm7).value)) ((x8 p strict (d+1) pc c (cn7 k ss)).snd+1) (ss.getD k cm7).body).snd (ss.getD k cm7).els).snd:Int)):=(by rw[x8,ab5 hp.2 al,P6 ab (ad6 ab) ab]);(first|rw[e1]|simp only[e1])<;>rfl)
   refine wp_seq (l6 G f8 [(10,iA (a24 p d strict ss pc c k).fst),(11,iA ((a24 p d strict ss pc c k).snd:Int))] fun G=>b6 (wp_ret (A3 (l0 (l0 (A3 (l0 ?_)))))));exact Y0 (.tup [iA (x8 p strict d (l5 pc (m8 p (ss.getD k cm7).value)) (x8 p strict d (l5 pc (m8 p (ss.getD k cm7).value)) ((x8 p strict (d+1) pc c (cn7 k ss)).snd+1) (ss.getD k cm7).body).snd (ss.getD k cm7).els).fst,iA ((x8 p strict d (l5 pc (m8 p (ss.getD k cm7).value)) (x8 p strict d (l5 pc (m8 p (ss.getD k cm7).value)) ((x8 p strict (d+1) pc c (cn7 k ss)).snd+1) (ss.getD k cm7).body).snd (ss.getD k cm7).els).snd:Int)]) G (rg 4) (by have e1:((x8 p strict (d+1) pc c ss).fst:Int)=((x8 p strict d (l5 pc (m8 p (ss.getD k cm7).value)) (x8 p strict d (l5 pc (m8 p (ss.getD k cm7).value)) ((x8 p strict (d+1) pc c (cn7 k ss)).snd+1) (ss.getD k cm7).body).snd (ss.getD k cm7).els).fst):=(by rw[x8,G6 hp.2 al (by rw[P6 ab (ad6 ab) ab];with_reducible assumption),P6 ab (ad6 ab) ab]);have e2:(((x8 p strict (d+1) pc c ss).snd:Int):Int)=(((x8 p strict d (l5 pc (m8 p (ss.getD k cm7).value)) (x8 p strict d (l5 pc (m8 p (ss.getD k cm7).value)) ((x8 p strict (d+1) pc c (cn7 k ss)).snd+1) (ss.getD k cm7).body).snd (ss.getD k cm7).els).snd:Int)):=(by rw[x8,G6 hp.2 al (by rw[P6 ab (ad6 ab) ab];with_reducible assumption),P6 ab (ad6 ab) ab]);(first|rw[e1,e2]|simp only[e1,e2])<;>rfl)
  refine wp_seq (l6 G f8 [(10,iA (ab8 p (ss.getD k cm7) pc strict)),(11,iA ((x8 p strict (d+1) pc c (cn7 k ss)).snd:Int))] fun G=>b6 (wp_ret (l0 (A3 (l0 (l0 (A3 (l0 ?_))))))));exact Y0 (.tup [iA (ab8 p (ss.getD k cm7) pc strict),iA ((x8 p strict (d+1) pc c (cn7 k ss)).snd:Int)]) G (rg 4) (by have e1:((x8 p strict (d+1) pc c ss).fst:Int)=(ab8 p (ss.getD k cm7) pc strict):=(by rw[x8,G6 hp.2 al (by rw[aE8 ab];with_reducible assumption),aE8 ab]);have e2:(((x8 p strict (d+1) pc c ss).snd:Int):Int)=(((x8 p strict (d+1) pc c (cn7 k ss)).snd:Int)):=(by rw[x8,G6 hp.2 al (by rw[aE8 ab];with_reducible assumption),aE8 ab]);(first|rw[e1,e2]|simp only[e1,e2])<;>rfl)
theorem bj2(p:i7)(strict:Bool):∀(d:Nat) (ss:List c5) (pc:Int) (c:Nat),ss.all (j6 p.vars.length p.arrays.length d)=true->c+X3 ss<=4000000->j7.ok Tryz.prog (bS8 p d ss pc c strict):=by
 intro d
 induction d with
 |zero=>
  intro ss pc c h hc
  cases ss with
  |nil=>exact bj3 p pc c strict
  |cons s r=>simp[j6]at h
 |succ d ih=>intro ss pc c h hc;exact bj1 p d strict ih ss pc c h hc
theorem ay6{p:i7}(h:l9 p=true):p.body.all (j6 p.vars.length p.arrays.length 5)=true/\X3 p.body<=60:=by
 simp only[l9,ah2,cm9,decide_eq_true_eq]at h
 exact⟨h.1.2,h.2⟩
theorem bK2(p:i7)(strict:Bool)(h:l9 p=true):j7.ok Tryz.prog (T7 176 [pA 0,.ref 2,iA 0,iA 0,bA strict] (pS p) (.tup [iA (x8 p strict 5 0 0 p.body).1,iA (x8 p strict 5 0 0 p.body).2])):=
 j7.dup (S:=pS p) (S':=pS p) (d:=.stmts p.body) (i:=2) (bj2 p strict 5 p.body 0 0 (ay6 h).1 (by have:=(ay6 h).2;omega)) rfl rfl rfl (fun ρ h=>by simp only[AV.vals,AV.val];rw[show ρ 3=ρ 2 from h];rfl) rfl
def X4(p:i7)(strict:Bool):Int×Int:=if l9 p then(if(x8 p strict 5 0 0 p.body).1=0 then(0,-1)else((x8 p strict 5 0 0 p.body).1,((x8 p strict 5 0 0 p.body).2:Int)))else(5,-1)
section
variable{p:i7}{strict:Bool}
theorem bW2(h:l9 p=false):X4 p strict=(5,-1):=by rw[X4,h];rfl
theorem br1(h:l9 p=true)(h1:(x8 p strict 5 0 0 p.body).1=0):X4 p strict=(0,-1):=by rw[X4,h,h1];rfl
theorem bJ3(h:l9 p=true)(h1:¬(x8 p strict 5 0 0 p.body).1=0):X4 p strict=((x8 p strict 5 0 0 p.body).1,((x8 p strict 5 0 0 p.body).2:Int)):=by rw[X4,h,if_neg h1];rfl
end
theorem bw1(p:i7)(strict:Bool)(hb:j5 p.body<=1048576):j7.ok Tryz.prog (T7 131 [pA 0,bA strict] (pS p) (.tup [iA (X4 p strict).1,iA (X4 p strict).2])):=by
  refine H9 24 Tryz.func131 [dI p.vars,dI p.arrays,dT p.body] [(0,pA 0),(1,bA strict)] fun G=>?_;refine wp_seq (j9 G f8 (rg 4) [dI p.vars,dI p.arrays,dT p.body,.box (pL 0)] [(1,bA strict),(2,.ptr 3 0),(4,iA 0),(5,iA 0)] fun G=>b6 (wp_seq (wp_seq (l6 G (v8 1 [0,1,2] (S6 p ai)) [(10,.v (.bool !l9 p))] fun G=>b6 ?_))));cases h0:(!l9 p)
  ·
   have q0:(l9 p)=true:=(Eq.mp (cp7 _) h0);refine rF G _ h0 (wp_skip (b6 (wp_seq (j9 G (v8 4 [0,1,2] (bK2 p strict ai)) [0,1,2] [dI p.vars,dI p.arrays,dT p.body] [(4,iA 0),(5,iA 0),(6,iA (x8 p strict 5 0 0 p.body).fst),(7,iA ((x8 p strict 5 0 0 p.body).snd:Int))] fun G=>b6 (wp_seq (wp_seq (l6 G f8 [(20,bA ((x8 p strict 5 0 0 p.body).fst==0))] fun G=>b6 (Q7 G (fun h1 q1=>?_) fun h1 q1=>?_))))))))
   · refine wp_skip (b6 (wp_seq (l6 G f8 [(4,iA (x8 p strict 5 0 0 p.body).fst),(5,iA ((x8 p strict 5 0 0 p.body).snd:Int))] fun G=>b6 (wp_ret ?_))));exact Y0 (.tup [iA (x8 p strict 5 0 0 p.body).fst,iA ((x8 p strict 5 0 0 p.body).snd:Int)]) G [0,1,2] (by have e1:((X4 p strict).fst:Int)=((x8 p strict 5 0 0 p.body).fst):=(by rw[bJ3 ai ai];done);have e2:((X4 p strict).snd:Int)=(((x8 p strict 5 0 0 p.body).snd:Int)):=(by rw[bJ3 ai ai];done);(first|rw[e1,e2]|simp only[e1,e2])<;>rfl)
   refine wp_seq (l6 G f8 [(4,iA (x8 p strict 5 0 0 p.body).fst),(5,iA (-1))] fun G=>b6 (wp_ret (l0 ?_)));exact Y0 (.tup [iA (x8 p strict 5 0 0 p.body).fst,iA (-1)]) G [0,1,2] (by have e1:((X4 p strict).fst:Int)=((x8 p strict 5 0 0 p.body).fst):=((congrArg Prod.fst (br1 ai ai)).trans (Eq.symm ai));have e2:((X4 p strict).snd:Int)=(-1):=(by rw[br1 ai ai];done);(first|rw[e1,e2]|simp only[e1,e2])<;>rfl)
  have q0:(l9 p)=false:=(Eq.mp (co9 _) h0);refine rT G _ h0 (wp_seq (l6 G f8 [(4,iA 5),(5,iA (-1))] fun G=>b6 (wp_ret (l0 ?_))));exact Y0 (.tup [iA 5,iA (-1)]) G [0,1,2] (by have e1:((X4 p strict).fst:Int)=(5):=(by rw[bW2 ai];done);have e2:((X4 p strict).snd:Int)=(-1):=(by rw[bW2 ai];done);(first|rw[e1,e2]|simp only[e1,e2])<;>rfl)
theorem ba7(p:i7)(hb:j5 p.body<=1048576):j7.ok Tryz.prog (T7 89 [pA 0] (pS p) (.tup [iA (X4 p false).1,iA (X4 p false).2])):=by
 refine H9 8 Tryz.func89 [dI p.vars,dI p.arrays,dT p.body] [(0,pA 0)] fun G=>?_;refine wp_seq (j9 G f8 (rg 4) [dI p.vars,dI p.arrays,dT p.body,.box (pL 0)] [(1,.ptr 3 0),(2,iA 0),(3,iA 0)] fun G=>b6 (wp_seq (j9 G (v8 1 [0,1,2] (bw1 p false ai)) [0,1,2] [dI p.vars,dI p.arrays,dT p.body] [(2,iA (X4 p false).fst),(3,iA (X4 p false).snd)] fun G=>b6 (wp_ret ?_))));exact O7 G [0,1,2]
section
variable{p:i7}{s:c5}{cx:Int}
end
theorem bZ3:∀x:Fin 4,∀y:Fin 4,∃z:Fin 4,l5 x.val y.val=(z.val:Int):=by decide+kernel
theorem aK1{x y:Int}(hx:i8 x=true)(hy:i8 y=true):i8 (l5 x y)=true:=by
 obtain⟨a,rfl⟩:=Z6 hx
 obtain⟨b,rfl⟩:=Z6 hy
 obtain⟨c,h⟩:=bZ3 a b
 rw[h]
 simp[i8];omega
theorem an7{l:List Int}(h:l.all i8=true)(i:Nat):i8 (l.getD i 0)=true:=by
 rcases cp1 i l.length with hi|hi
 ·rw[m6 hi];exact cn8.1 h _ (co6 hi)
 rw[cn2,cp0 hi];rfl
theorem av6{vs ars:List Int}(h1:vs.all i8=true)(h2:ars.all i8=true):∀(d:Nat) (e:c6),i8 (i9 vs ars d e)=true
 |0,_=>rfl
 | d + 1, e => by
  rw[i9]
  have key:∀(ks:List c6) (a:Int),i8 a=true->i8 (ks.foldl (fun a k=>l5 a (i9 vs ars d k)) a)=true:=by
   intro ks
   induction ks with
   |nil=>intro a ha;exact ha
   |cons x r ih=>intro a ha;rw[List.foldl_cons];exact ih _ (aK1 ha (av6 h1 h2 d x))
  refine key _ _ ?_
  unfold aD4
  split
  ·exact an7 h1 _
  split
  ·exact an7 h2 _
  rfl
def bF2(p:i7):Bool:=p.vars.all i8&&p.arrays.all i8
theorem bf2{p:i7}(h:l9 p=true):bF2 p=true:=by
 unfold l9 G5 at h
 simp only[cm9]at h
 unfold bF2
 rw[h.1.1.1.1.1.1,h.1.1.1.1.1.2];rfl
section
variable{p:i7}{s:c5}
end
section
variable{R:c5×Int->Int}{c a:Int}{n:Nat}{x:c5×Int}
end
section
variable{R:c5×Int->Int}{p:i7}{d:Nat}{cx:Int}{ss:List c5}{c b:Int}{n k:Nat}
end
abbrev N8:Type:=List Int×List Int
def bv(x:Int):BitVec 64:=BitVec.ofInt 64 x
def ofb(b:BitVec 64):Int:=IntKind.i64.wrap (b.toNat:Int)
theorem b41(b:BitVec 64):bv (ofb b)=b:=by
 apply BitVec.eq_of_toNat_eq
 unfold bv ofb
 rw[BitVec.toNat_ofInt]
 have h:=b.isLt
 unfold IntKind.wrap
 simp only[IntKind.bits,IntKind.signed,Bool.true_and,decide_eq_true_eq]
 split<;>omega
theorem bO5(x y:Int):l5 x y=ofb (bv x|||bv y):=rfl
theorem bK6(x y:Int):bv (l5 x y)=bv x|||bv y:=by rw[bO5,b41]
def leI(x y:Int):Prop:=bv x|||bv y=bv y
theorem leI.refl(x:Int):leI x x:=BitVec.or_self
theorem leI.trans{x y z:Int}(h:leI x y)(k:leI y z):leI x z:=by
 unfold leI at*
 rw[<-k, <-BitVec.or_assoc,h]
theorem aL6(x y:Int):leI x (l5 x y):=by unfold leI;rw[bK6, <-BitVec.or_assoc,BitVec.or_self]
theorem af8{x y a b:Int}(h:leI x a)(k:leI y b):leI (l5 x y) (l5 a b):=by
 unfold leI at*
 rw[bK6,bK6,BitVec.or_assoc, <-BitVec.or_assoc (bv y),BitVec.or_comm (bv y) (bv a),BitVec.or_assoc (bv a),k, <-BitVec.or_assoc,h]
theorem b42:∀x:Fin 4,∀y:Fin 4,bv x.val=bv y.val->x=y:=by decide+kernel
theorem b12:∀x:Fin 4,∀y:Fin 4,bv x.val|||bv y.val=bv y.val->x.val<=y.val:=by decide+kernel
theorem leI.anti{x y:Int}(h:leI x y)(k:leI y x)(hx:i8 x=true)(hy:i8 y=true):x=y:=by
 obtain⟨a,rfl⟩:=Z6 hx
 obtain⟨b,rfl⟩:=Z6 hy
 unfold leI at*
 rw[BitVec.or_comm,h]at k
 rw[b42 b a k]
theorem leI.nat{x y:Int}(h:leI x y)(hx:i8 x=true)(hy:i8 y=true):x.toNat<=y.toNat:=by
 obtain⟨a,rfl⟩:=Z6 hx
 obtain⟨b,rfl⟩:=Z6 hy
 have:=b12 a b h
 omega
def leP(q r:N8):Prop:=(∀i,leI (q.1.getD i 0) (r.1.getD i 0))/\∀i,leI (q.2.getD i 0) (r.2.getD i 0)
def shP(q r:N8):Prop:=r.1.length=q.1.length/\r.2.length=q.2.length
def okP(q:N8):Prop:=q.1.all i8=true/\q.2.all i8=true
theorem leP.refl(q:N8):leP q q:=⟨fun _=>leI.refl _,fun _=>leI.refl _⟩
theorem leP.trans{q r s:N8}(h:leP q r)(k:leP r s):leP q s:=⟨fun i=>(h.1 i).trans (k.1 i),fun i=>(h.2 i).trans (k.2 i)⟩
theorem shP.refl(q:N8):shP q q:=⟨rfl,rfl⟩
theorem shP.trans{q r s:N8}(h:shP q r)(k:shP r s):shP q s:=⟨k.1.trans h.1,k.2.trans h.2⟩
theorem shP.symm{q r:N8}(h:shP q r):shP r q:=⟨h.1.symm,h.2.symm⟩
theorem aT9{a b:List Int}(hl:b.length=a.length)(h:∀i,leI (a.getD i 0) (b.getD i 0))(k:∀i,leI (b.getD i 0) (a.getD i 0))(ha:a.all i8=true)(hb:b.all i8=true):a=b:=by
 apply List.ext_getElem al
 intro i h1 h2
 have:=(h i).anti (k i) (an7 ha i) (an7 hb i)
 rw[m6 h1,m6 h2]at this
 exact this
theorem leP.anti{q r:N8}(h:leP q r)(k:leP r q)(hs:shP q r)(hq:okP q)(hr:okP r):q=r:=
 Prod.ext (aT9 hs.1 h.1 k.1 hq.1 hr.1) (aT9 hs.2 h.2 k.2 hq.2 hr.2)
theorem bD2{q r:N8}(h:leP q r)(e:c6):leI (aD4 q.1 q.2 e) (aD4 r.1 r.2 e):=by
 unfold aD4
 split
 ·exact h.1 _
 split
 ·exact h.2 _
 exact leI.refl _
theorem al1{q r:N8}(h:leP q r):∀(d:Nat) (e:c6),leI (i9 q.1 q.2 d e) (i9 r.1 r.2 d e)
 |0,_=>leI.refl _
 | d + 1, e => by
  rw[i9,i9]
  have key:∀(ks:List c6) (a b:Int),leI a b->leI (ks.foldl (fun a k=>l5 a (i9 q.1 q.2 d k)) a) (ks.foldl (fun a k=>l5 a (i9 r.1 r.2 d k)) b):=by
   intro ks
   induction ks with
   |nil=>intro a b hab;exact hab
   |cons x t ih=>intro a b hab;rw[List.foldl_cons,List.foldl_cons];exact ih _ _ (af8 hab (al1 h d x))
  exact key _ _ _ (bD2 h e)
def L8(q:N8)(s:c5)(cx:Int):N8:=
 if s.kind=1 then(q.1.set s.target.toNat (l5 (l5 (q.1.getD s.target.toNat 0) (i9 q.1 q.2 5 s.value)) cx),q.2)
 else if s.kind=2 then(q.1,q.2.set s.target.toNat (l5 (l5 (l5 (q.2.getD s.target.toNat 0) (i9 q.1 q.2 5 s.value)) (i9 q.1 q.2 5 s.index)) cx))
 else q
def ai4(q:N8)(s:c5)(cx:Int):Int:=if s.kind=3 then l5 cx (i9 q.1 q.2 5 s.value)else cx
def upS(b:Bool):Nat->N8->Int->c5->N8
 |0,q,_,_=>q
 |d+1,q,cx,s=>s.els.foldl (fun r t=>upS b d r (ai4 (if b then s.body.foldl (fun r t=>upS b d r (ai4 (L8 q s cx) s cx) t) (L8 q s cx)else L8 q s cx) s cx) t) (s.body.foldl (fun r t=>upS b d r (ai4 (L8 q s cx) s cx) t) (L8 q s cx))
abbrev C0(b:Bool)(d:Nat)(q:N8)(cx:Int)(ss:List c5):N8:=ss.foldl (fun r t=>upS b d r cx t) q
theorem aj6(b:Bool)(d:Nat)(q:N8)(cx:Int)(s:c5):upS b (d+1) q cx s=C0 b d (C0 b d (L8 q s cx) (ai4 (L8 q s cx) s cx) s.body) (ai4 (if b then C0 b d (L8 q s cx) (ai4 (L8 q s cx) s cx) s.body else L8 q s cx) s cx) s.els:=by rw[upS]
theorem aJ2(l:List Int)(t i:Nat)(x:Int):(l.set t x).getD i 0=if t=i/\t<l.length then x else l.getD i 0:=by
 simp only[cn2,cr5]
 by_cases h:t=i
 ·subst h
  by_cases h2:t<l.length
  ·simp[h2]
  simp[h2]
 simp[h]
theorem bn1{l:List Int}{t:Nat}{x:Int}(h:l.all i8=true)(hx:i8 x=true):(l.set t x).all i8=true:=by
 rw[cn8]at*
 intro y hy
 rcases List.mem_or_eq_of_mem_set hy with h1|h1
 ·exact h y h1
 rw[h1];exact hx
theorem bf8(q:N8)(s:c5)(cx:Int):shP q (L8 q s cx):=by
 unfold L8
 split
 ·exact⟨ao,rfl⟩
 split
 ·exact⟨rfl,ao⟩
 exact shP.refl _
theorem a45{l:List Int}{t:Nat}{x:Int}(h:leI (l.getD t 0) x)(i:Nat):leI (l.getD i 0) ((l.set t x).getD i 0):=by
 rw[aJ2]
 split
 ·rename_i h1;rw[<-h1.1];exact h
 exact leI.refl _
theorem a44{l m:List Int}{t:Nat}{x y:Int}(hl:m.length=l.length)(h:∀i,leI (l.getD i 0) (m.getD i 0))(hx:leI x y)(i:Nat):leI ((l.set t x).getD i 0) ((m.set t y).getD i 0):=by
 rw[aJ2,aJ2,hl]
 split
 ·exact hx
 exact h i
theorem bD4(q:N8)(s:c5)(cx:Int):leP q (L8 q s cx):=by
 unfold L8
 split
 ·exact⟨a45 ((aL6 _ _).trans (aL6 _ _)),fun _=>leI.refl _⟩
 split
 ·exact⟨fun _=>leI.refl _,a45 (((aL6 _ _).trans (aL6 _ _)).trans (aL6 _ _))⟩
 exact leP.refl _
theorem bD3{q r:N8}(h:leP q r)(hs:shP q r){cx cy:Int}(hc:leI cx cy)(s:c5):leP (L8 q s cx) (L8 r s cy):=by
 unfold L8
 split
 ·exact⟨a44 hs.1 h.1 (af8 (af8 (h.1 _) (al1 h 5 _)) hc),h.2⟩
 split
 ·exact⟨h.1,a44 hs.2 h.2 (af8 (af8 (af8 (h.2 _) (al1 h 5 _)) (al1 h 5 _)) hc)⟩
 exact h
theorem bZ7{q:N8}(h:okP q){cx:Int}(hc:i8 cx=true)(s:c5):okP (L8 q s cx):=by
 unfold L8
 split
 ·exact⟨bn1 h.1 (aK1 (aK1 (an7 h.1 _) (av6 h.1 h.2 5 _)) hc),h.2⟩
 split
 ·exact⟨h.1,bn1 h.2 (aK1 (aK1 (aK1 (an7 h.2 _) (av6 h.1 h.2 5 _)) (av6 h.1 h.2 5 _)) hc)⟩
 exact h
theorem a74{q r:N8}(h:leP q r){cx cy:Int}(hc:leI cx cy)(s:c5):leI (ai4 q s cx) (ai4 r s cy):=by
 unfold ai4
 split
 ·exact af8 hc (al1 h 5 _)
 exact hc
theorem bG3{q:N8}(h:okP q){cx:Int}(hc:i8 cx=true)(s:c5):i8 (ai4 q s cx)=true:=by
 unfold ai4
 split
 ·exact aK1 hc (av6 h.1 h.2 5 _)
 exact hc
theorem an8{F:N8->c5->N8}(hF:∀q s,shP q (F q s)):∀(ss:List c5) (q:N8),shP q (ss.foldl F q)
 |[],q=>shP.refl q
 |s::r,q=>(hF q s).trans (an8 hF r _)
theorem ae9{F:N8->c5->N8}(hF:∀q s,leP q (F q s)):∀(ss:List c5) (q:N8),leP q (ss.foldl F q)
 |[],q=>leP.refl q
 |s::r,q=>(hF q s).trans (ae9 hF r _)
theorem aF4{F:N8->c5->N8}(hF:∀q s,okP q->okP (F q s)):∀(ss:List c5) (q:N8),okP q->okP (ss.foldl F q)
 |[],_,h=>h
 |s::r,q,h=>aF4 hF r _ (hF q s h)
theorem an9{F G:N8->c5->N8}(hF:∀q s,shP q (F q s))(hG:∀q s,shP q (G q s))(h:∀q r s,shP q r->leP q r->leP (F q s) (G r s)):∀(ss:List c5) (q r:N8),shP q r->leP q r->leP (ss.foldl F q) (ss.foldl G r)
 |[],_,_,_,hl=>hl
 |s::t,q,r,hs,hl=>an9 hF hG h t _ _ (((hF q s).symm.trans hs).trans (hG r s)) (h q r s hs hl)
theorem aj5(b:Bool):∀(d:Nat) (cx:Int) (q:N8) (s:c5),shP q (upS b d q cx s)
 |0,_,q,_=>shP.refl q
 |d+1,cx,q,s=>by
  rw[aj6]
  exact((bf8 q s cx).trans (an8 (fun q s=>aj5 b d _ q s) _ _)).trans (an8 (fun q s=>aj5 b d _ q s) _ _)
theorem aE6(b:Bool):∀(d:Nat) (cx:Int) (q:N8) (s:c5),leP q (upS b d q cx s)
 |0,_,q,_=>leP.refl q
 |d+1,cx,q,s=>by
  rw[aj6]
  exact((bD4 q s cx).trans (ae9 (fun q s=>aE6 b d _ q s) _ _)).trans (ae9 (fun q s=>aE6 b d _ q s) _ _)
theorem by9(b:Bool):∀(d:Nat) (cx:Int) (q:N8) (s:c5),i8 cx=true->okP q->okP (upS b d q cx s)
 |0,_,_,_,_,h=>h
 |d+1,cx,q,s,hc,h=>by
  rw[aj6]
  have h1:=bZ7 h hc s
  have h2:okP (C0 b d (L8 q s cx) (ai4 (L8 q s cx) s cx) s.body):=aF4 (fun q t hq=>by9 b d _ q t (bG3 h1 hc s) hq) _ _ h1
  refine aF4 (fun q t hq=>by9 b d _ q t (bG3 ?_ hc s) hq) _ _ h2
  split
  ·exact h2
  exact h1
theorem aW5{b b':Bool}(hb:b=true->b'=true):∀(d:Nat) (cx cy:Int) (q r:N8) (s:c5),leI cx cy->shP q r->leP q r->leP (upS b d q cx s) (upS b' d r cy s)
 |0,_,_,_,_,_,_,_,h=>h
 | d + 1, cx, cy, q, r, s, hc, hs, h => by
  rw[aj6,aj6]
  have h1:=bD3 h hs hc s
  have s1:shP (L8 q s cx) (L8 r s cy):=((bf8 q s cx).symm.trans hs).trans (bf8 r s cy)
  have hi:=a74 h1 hc s
  have h2:leP (C0 b d (L8 q s cx) (ai4 (L8 q s cx) s cx) s.body) (C0 b' d (L8 r s cy) (ai4 (L8 r s cy) s cy) s.body):=an9 (fun q t=>aj5 b d _ q t) (fun q t=>aj5 b' d _ q t) (fun q r t hs hl=>aW5 hb d _ _ q r t hi hs hl) _ _ _ s1 h1
  have s2:shP (C0 b d (L8 q s cx) (ai4 (L8 q s cx) s cx) s.body) (C0 b' d (L8 r s cy) (ai4 (L8 r s cy) s cy) s.body):=((an8 (fun q t=>aj5 b d _ q t) _ _).symm.trans s1).trans (an8 (fun q t=>aj5 b' d _ q t) _ _)
  refine an9 (fun q t=>aj5 b d _ q t) (fun q t=>aj5 b' d _ q t) (fun q r t hs hl=>aW5 hb d _ _ q r t ?_ hs hl) _ _ _ s2 h2
  refine a74 ?_ hc s
  cases b with
  |true=>
   have e:=hb rfl
   subst e
   exact h2
  |false=>
   simp only[Bool.false_eq_true,if_false]
   split
   ·exact h1.trans (ae9 (fun q t=>aE6 b' d _ q t) _ _)
   exact h1
section
variable{b:Bool}{d:Nat}{cx:Int}{q r:N8}{ss:List c5}
theorem ar2:shP q (C0 b d q cx ss):=an8 (fun q t=>aj5 b d _ q t) _ _
theorem aI0:leP q (C0 b d q cx ss):=ae9 (fun q t=>aE6 b d _ q t) _ _
theorem bz0(hc:i8 cx=true)(h:okP q):okP (C0 b d q cx ss):=aF4 (fun q t hq=>by9 b d _ q t hc hq) _ _ h
end
def aX0(l:List Int):Nat:=(l.map Int.toNat).sum
def aP3(q:N8):Nat:=aX0 q.1+aX0 q.2
theorem aW9:∀{a b:List Int},b.length=a.length->a.all i8=true->b.all i8=true->(∀i,leI (a.getD i 0) (b.getD i 0))->aX0 a<=aX0 b/\(aX0 a=aX0 b->a=b)
 |[],b,hl,_,_,_=>by rw[co7 hl];exact⟨cn4 _,fun _=>rfl⟩
 |x::r,[],hl,_,_,_=>by cases hl
 |x::r,y::t,hl,ha,hb,h=>by
  simp only[List.all_cons,cm9]at ha hb
  have h0:=h 0
  simp at h0
  obtain⟨k1,k2⟩:=aW9 (a:=r) (b:=t) (by simpa using hl) ha.2 hb.2 fun i=>by have:=h (i+1);simpa using this
  have k3:=h0.nat ha.1 hb.1
  simp only[aX0,cq5,List.sum_cons]at k1 k2 ⊢
  refine⟨al,fun e=>?_⟩
  obtain⟨a,rfl⟩:=Z6 ha.1
  obtain⟨b,rfl⟩:=Z6 hb.1
  rw[k2 al]
  congr 1
  omega
theorem aI5:∀{l:List Int},l.all i8=true->aX0 l<=3*l.length
 |[],_=>cp5 _
 |x::r,h=>by
  simp only[List.all_cons,cm9]at h
  have h1:=aI5 h.2
  obtain⟨a,rfl⟩:=Z6 h.1
  simp only[aX0,cq5,List.sum_cons,cn6]at h1 ⊢
  omega
theorem bm7{q r:N8}(hs:shP q r)(hq:okP q)(hr:okP r)(h:leP q r)(hne:¬r=q):aP3 q<aP3 r:=by
 obtain⟨a1,a2⟩:=aW9 hs.1 hq.1 hr.1 h.1
 obtain⟨b1,b2⟩:=aW9 hs.2 hq.2 hr.2 h.2
 unfold aP3
 refine Nat.lt_of_not_le fun hle=>hne (Prod.ext (a2 al).symm (b2 al).symm)
theorem a35{q:N8}(hq:okP q):aP3 q<=3*(q.1.length+q.2.length):=by
 have h1:=aI5 hq.1
 have h2:=aI5 hq.2
 unfold aP3;omega
def ai9(b:List c5)(p q:N8):Prop:=shP p q/\okP q/\leP p q/\∀r,shP p r->okP r->leP p r->C0 true 5 r 0 b=r->leP q r
theorem as1{b:List c5}{p:N8}(h:okP p):ai9 b p p:=⟨shP.refl _,h,leP.refl _,fun _ _ _ h _=>h⟩
theorem an6{b:List c5}{p q:N8}{f:Bool}(h:ai9 b p q):ai9 b p (C0 f 5 q 0 b):=
 ⟨h.1.trans ar2,bz0 rfl h.2.1,h.2.2.1.trans aI0,fun r h1 h2 h3 h4=>by
  have h5:=h.2.2.2 r h1 h2 h3 h4
  have:=an9 (fun q t=>aj5 f 5 0 q t) (fun q t=>aj5 true 5 0 q t) (fun q r t hs hl=>aW5 (b:=f) (b':=true) (fun _=>rfl) 5 0 0 q r t (leI.refl _) hs hl) b q r (h.1.symm.trans h1) h5
  rw[show b.foldl (fun q t=>upS true 5 q 0 t) r=r from h4]at this
  exact this⟩
theorem a75{b:List c5}{p q r:N8}(hq:ai9 b p q)(hr:ai9 b p r)(fq:C0 true 5 q 0 b=q)(fr:C0 true 5 r 0 b=r):q=r:=
 (hq.2.2.2 r hr.1 hr.2.1 hr.2.2.1 fr).anti (hr.2.2.2 q hq.1 hq.2.1 hq.2.2.1 fq) (hq.1.symm.trans hr.1) hq.2.1 hr.2.1
def aP7(b:List c5):Nat->N8->N8
 |0,q=>q
 |n+1,q=>aP7 b n (C0 true 5 q 0 b)
def ay9(p:i7):N8:=aP7 p.body 64 (p.vars,p.arrays)
theorem a76{b:List c5}{p:N8}:∀(n:Nat) (q:N8),ai9 b p q->ai9 b p (aP7 b n q)
 |0,_,h=>h
 |n+1,q,h=>a76 n _ (an6 h)
theorem a77{b:List c5}:∀(n:Nat) {q:N8},C0 true 5 q 0 b=q->aP7 b n q=q
 |0,_,_=>rfl
 |n+1,q,h=>by rw[aP7,h];exact a77 n h
theorem a78{b:List c5}{p:N8}:∀(n:Nat) (q:N8),ai9 b p q->C0 true 5 (aP7 b n q) 0 b=aP7 b n q\/aP3 q+n<=aP3 (aP7 b n q)
 |0,_,_=>.inr (cn4 _)
 | n + 1, q, h => by
  rw[aP7]
  by_cases e:C0 true 5 q 0 b=q
  ·left
   rw[e,a77 n e,e]
  have h1:=bm7 ar2 h.2.1 (bz0 rfl h.2.1) aI0 e
  rcases a78 n _ (an6 (f:=true) h)with h2|h2
  ·exact .inl h2
  right;omega
theorem a00{p:i7}(h:l9 p=true):okP (p.vars,p.arrays):=by
 have:=bf2 h
 simp only[bF2,cm9]at this
 exact this
theorem aM1{p:i7}(h:l9 p=true):ai9 p.body (p.vars,p.arrays) (ay9 p):=a76 64 _ (as1 (a00 h))
theorem bG6{p:i7}(h:l9 p=true)(hl:p.vars.length+p.arrays.length<=14):C0 true 5 (ay9 p) 0 p.body=ay9 p:=by
 rcases a78 (b:=p.body) 64 (p.vars,p.arrays) (as1 (a00 h))with h1|h1
 ·exact h1
 have h2:=aM1 h
 have h3:=a35 h2.2.1
 have h4:=h2.1
 have h5:aP7 p.body 64 (p.vars,p.arrays)=ay9 p:=rfl
 rw[h5]at h1
 rw[h4.1,h4.2]at h3
 simp only at h3
 omega
theorem bp8{p:i7}{q:N8}(h:l9 p=true)(hl:p.vars.length+p.arrays.length<=14)(hq:ai9 p.body (p.vars,p.arrays) q)(hf:C0 true 5 q 0 p.body=q):ay9 p=q:=
 a75 (aM1 h) hq (bG6 h hl) hf
theorem bm6{a b:c6}(h:¬a=b):M5 a b=false:=by
 cases e:M5 a b
 ·rfl
 exact absurd ((N2 a b).1 e) h
section
variable{a b:c6}{k:Nat}
theorem sx1(h:¬a.kind=b.kind):M5 a b=false:=bm6 fun e=>h (by rw[e])
theorem sx2(h:¬a.value=b.value):M5 a b=false:=bm6 fun e=>h (by rw[e])
theorem sx3(h:¬(a.kids.length:Int)=b.kids.length):M5 a b=false:=bm6 fun e=>h (by rw[e])
theorem sx4(h:M5 (a.kids.getD k cm7) (b.kids.getD k cm7)=false):M5 a b=false:=bm6 fun e=>by
 subst e
 rw[(N2 _ _).2 rfl]at h;cases h
theorem ay0{α:Type}{l m:List α}{k:Nat}{z:α}(h:l.take k=m.take k)(h1:k<l.length)(h2:k<m.length)(e:l.getD k z=m.getD k z):l.take (k+1)=m.take (k+1):=by
 rw[n7 _ _ h1,n7 _ _ h2,h, <-m6 (d:=z) h1, <-m6 (d:=z) h2,e]
theorem aI3{α:Type}{l m:List α}{k:Nat}(h:l.take k=m.take k)(h1:l.length<=k)(h2:(l.length:Int)=m.length):l=m:=by
 rw[co3 h1,co3 al]at h
 exact h
theorem sx5(h1:a.kind=b.kind)(h2:a.value=b.value)(h3:(a.kids.length:Int)=b.kids.length)(h:a.kids.take k=b.kids.take k)(hk:a.kids.length<=k):M5 a b=true:=by
 refine(N2 _ _).2 ?_
 rw[<-c6.eta a, <-c6.eta b,h1,h2,aI3 h hk h3]
end
abbrev sxC(a b:c6):j7:=T7 198 [eA a 0,eA b 1] [dE a.kids,dE b.kids] (bA (M5 a b))
theorem bN4(x y:c6)(ih:∀(u:c6),u∈x.kids->∀(v:c6),j7.ok Tryz.prog (sxC u v)):j7.ok Tryz.prog (sxC x y):=by
  refine H9 46 Tryz.func198 [dE x.kids,dE y.kids] [(0,eA x 0),(1,eA y 1)] fun G=>?_;have hl:x.kids.length<=9223372036854775807:=G.len 0 (d:=.exprs x.kids) aj;refine wp_seq (j9 G f8 [0,1,2,10] [dE x.kids,dE y.kids,.box (eL x 0),.box (eL y 1)] [(2,.ptr 2 0),(3,.ptr 3 0),(4,bA false)] fun G=>b6 (wp_seq (wp_seq ?_)));cases h0:(x.kind !=y.kind)
  ·
   have q0:=bne_eq_false_iff_eq.1 h0;cases h1:(x.value !=y.value)
   ·
    have q1:=bne_eq_false_iff_eq.1 h1;refine l6 G (K0 (fc h0 (fc h1 fz)) (us [(6,10,0),(1011,1011,0),(13,19,1),(1020,1020,1)])) [(26,bA ((x.kids.length:Int) !=(y.kids.length:Int)))] fun G=>b6 (rcN G (fun h2 q2=>?_) fun h2 q2=>?_)
    ·
     refine wp_skip (b6 (wp_seq (wp_seq (E8 G f8 [(2,.ptr 2 0),(3,.ptr 3 0),(4,bA false),(5,iA 0)] fun G=>b6 (wp_block ?_)))));refine t9 (κ:=Nat) (fun k=>k<=x.kids.length/\x.kids.take k=y.kids.take k) (fun k=>x.kids.length-k) (fun k=>[dE x.kids,dE y.kids,.box (eL x 0),.box (eL y 1)]) (fun k=>[(2,.ptr 2 0),(3,.ptr 3 0),(4,bA false),(5,iA k)]) 0 (by simp[h0,h1,h2]) (v9.at G _ _) ?_;clear G;intro k ρ a w hp G;refine wp_seq (wp_seq (l6 G f8 [(31,bA (decide ((k:Int)<x.kids.length)))] fun G=>b6 (rcD G (fun h3 q3=>?_) fun h3 q3=>?_)))
     · refine wp_exit (t7 (t7 (t5 (b6 (wp_seq (j9 G f8 [0,1] [dE x.kids,dE y.kids] [(4,bA true)] fun G=>b6 (wp_ret ?_)))))));exact K9 true G [0,1] (sx5 al al al hp.2 al)
     refine wp_skip (b6 (wp_seq (wp_block (wp_seq (ai3 G (v8 10 [36,76] (ih (x.kids.getD k cm7) (av7 al) (y.kids.getD k cm7))) [0,1,0,7,15,0,32,0,224,480,1023,2047] [(45,.v (.bool !M5 (x.kids.getD k cm7) (y.kids.getD k cm7)))] (iX k k x.kids.length (iX k k y.kids.length [])) (iK al (iK al co8)) fun G=>b6 ?_)))));cases h4:(!M5 (x.kids.getD k cm7) (y.kids.getD k cm7))
     · have q4:(M5 (x.kids.getD k cm7) (y.kids.getD k cm7))=true:=(Eq.mp (cp7 _) h4);refine rF G _ h4 (wp_skip (n4 (b6 (M8 G f8 [(5,iA ((k:Int)+1))] [wO ((k:Int)+1)] (o1 al) fun G=>b6 ?_))));exact R2 G (k+1) (⟨al,ay0 hp.2 al al ((N2 _ _).1 ab)⟩) al (rg 4)
     have q4:(M5 (x.kids.getD k cm7) (y.kids.getD k cm7))=false:=(Eq.mp (co9 _) h4);refine rT G _ h4 (wp_seq (l6 G f8 [] fun G=>b6 (wp_ret (A3 (l0 (l0 (A3 (l0 ?_))))))));exact K9 false G [0,1] (sx4 ab)
    refine wp_seq (l6 G f8 [] fun G=>b6 (wp_ret (l0 ?_)));exact K9 false G [0,1] (sx3 al)
   have q1:=bne_iff_ne.1 h1;refine l6 G (K0 (fc h0 (fc h1 fz)) (us [(6,10,0),(1011,1011,0),(13,19,1),(1020,1020,1)])) [(26,bA true)] fun G=>b6 (rT G true aj (wp_seq (l6 G f8 [] fun G=>b6 (wp_ret (l0 ?_)))));exact K9 false G [0,1] (sx2 al)
  have q0:=bne_iff_ne.1 h0;refine l6 G (K0 (fc h0 (fc (b:=true) rfl fz)) (us [(6,10,0),(1011,1011,0),(13,19,1),(1020,1020,1)])) [(26,bA true)] fun G=>b6 (rT G true aj (wp_seq (l6 G f8 [] fun G=>b6 (wp_ret (l0 ?_)))));exact K9 false G [0,1] (sx1 al)
theorem ah1(x:c6):∀(y:c6),j7.ok Tryz.prog (sxC x y):=
 c6.ind (P:=fun x=>∀(y:c6),j7.ok Tryz.prog (sxC x y)) (fun k n ks ih y=>bN4 ⟨k,n,ks⟩ y fun u hu=>ih u hu) x
theorem am1(xs ys:List Int):j7.ok Tryz.prog (T7 172 [.ref 0,.ref 1] [dI xs,dI ys] (bA (decide (xs=ys)))):=by
  refine H9 26 Tryz.func172 [dI xs,dI ys] [(0,.ref 0),(1,.ref 1)] fun G=>?_;have hl:xs.length<=9223372036854775807:=G.len 0 (d:=.ints xs) aj;refine wp_seq (E8 G f8 [(0,.ref 0),(1,.ref 1),(4,bA false)] fun G=>b6 (wp_seq (wp_seq (l6 G f8 [(10,bA ((xs.length:Int) !=(ys.length:Int)))] fun G=>b6 (rcN G (fun h0 q0=>?_) fun h0 q0=>?_)))))
  ·
   refine wp_skip (b6 (wp_seq (wp_seq (E8 G f8 [(0,.ref 0),(1,.ref 1),(4,bA false),(5,iA 0)] fun G=>b6 (wp_block ?_)))));refine t9 (κ:=Nat) (fun k=>k<=xs.length/\xs.take k=ys.take k) (fun k=>xs.length-k) (fun k=>[dI xs,dI ys]) (fun k=>[(0,.ref 0),(1,.ref 1),(4,bA false),(5,iA k)]) 0 (by simp[h0]) (v9.at G _ _) ?_;clear G;intro k ρ a w hp G;refine wp_seq (wp_seq (l6 G f8 [(14,bA (decide ((k:Int)<xs.length)))] fun G=>b6 (rcD G (fun h1 q1=>?_) fun h1 q1=>?_)))
   · refine wp_exit (t7 (t7 (t5 (b6 (wp_seq (l6 G f8 [(4,bA true)] fun G=>b6 (wp_ret ?_)))))));exact K9 true G [0,1] (decide_eq_true (aI3 hp.2 al al))
   refine wp_skip (b6 (wp_seq (wp_block (wp_seq (ai3 G f8 [0,0,3,7,0,0,48,112,255] [(25,bA (xs.getD k 0 !=ys.getD k 0))] (iX k k xs.length (iX k k ys.length [])) (iK al (iK al co8)) fun G=>b6 (rcN G (fun h2 q2=>?_) fun h2 q2=>?_))))))
   · refine wp_skip (n4 (b6 (M8 G f8 [(5,iA ((k:Int)+1))] [wO ((k:Int)+1)] (o1 al) fun G=>b6 ?_)));exact R2 G (k+1) (⟨al,ay0 hp.2 al al al⟩) al [0,1]
   refine wp_seq (l6 G f8 [] fun G=>b6 (wp_ret (A3 (l0 (l0 (A3 (l0 ?_)))))));exact K9 false G [0,1] (by exact decide_eq_false fun e=>by subst e;omega)
  refine wp_seq (l6 G f8 [] fun G=>b6 (wp_ret (l0 ?_)));exact K9 false G [0,1] (by exact decide_eq_false fun e=>by subst e;omega)
theorem aI7{s t:c5}(h:¬s=t):R0 s t=false:=by
 cases e:R0 s t
 ·rfl
 exact absurd ((ak2 s t).1 e) h
theorem bU6{l m:List c5}(h:¬l=m):A1 l m=false:=by
 cases e:A1 l m
 ·rfl
 exact absurd ((K8 l m).1 e) h
section
variable{s t:c5}{l m:List c5}{k:Nat}
theorem sr1(h:¬s.kind=t.kind):R0 s t=false:=aI7 fun e=>h (by rw[e])
theorem sr2(h:¬s.target=t.target):R0 s t=false:=aI7 fun e=>h (by rw[e])
theorem sr3(h:¬s.count=t.count):R0 s t=false:=aI7 fun e=>h (by rw[e])
theorem sr4(h:M5 s.index t.index=false):R0 s t=false:=aI7 fun e=>by subst e;rw[(N2 _ _).2 rfl]at h;cases h
theorem sr5(h:M5 s.value t.value=false):R0 s t=false:=aI7 fun e=>by subst e;rw[(N2 _ _).2 rfl]at h;cases h
theorem sr6(h:A1 s.body t.body=false):R0 s t=false:=aI7 fun e=>by subst e;rw[(K8 _ _).2 rfl]at h;cases h
theorem sr7(h:A1 s.els t.els=false):R0 s t=false:=aI7 fun e=>by subst e;rw[(K8 _ _).2 rfl]at h;cases h
theorem sr8(h1:s.kind=t.kind)(h2:s.target=t.target)(h3:s.count=t.count)(h4:M5 s.index t.index=true)(h5:M5 s.value t.value=true)(h6:A1 s.body t.body=true):R0 s t=A1 s.els t.els:=by
 cases e:A1 s.els t.els
 ·exact sr7 e
 refine(ak2 _ _).2 ?_
 rw[<-c5.eta s, <-c5.eta t,h1,h2,h3,(N2 _ _).1 h4,(N2 _ _).1 h5,(K8 _ _).1 h6,(K8 _ _).1 e]
theorem sb1(h:¬(l.length:Int)=m.length):A1 l m=false:=bU6 fun e=>h (by rw[e])
theorem sb2(h:R0 (l.getD k cm7) (m.getD k cm7)=false):A1 l m=false:=bU6 fun e=>by
 subst e
 rw[(ak2 _ _).2 rfl]at h;cases h
theorem sb3(h3:(l.length:Int)=m.length)(h:l.take k=m.take k)(hk:l.length<=k):A1 l m=true:=(K8 _ _).2 (aI3 h hk h3)
end
abbrev sbC(l m:List c5):j7:=T7 173 [.ref 0,.ref 1] [dT l,dT m] (bA (A1 l m))
abbrev ssC(s t:c5):j7:=T7 190 [sA s 0,sA t 4] (sS s++sS t) (bA (R0 s t))
abbrev at1(s:c5)(t:c5)(r0:List It):List It:=dE s.index.kids::dE s.value.kids::dT s.body::dT s.els::dE t.index.kids::dE t.value.kids::dT t.body::dT t.els::r0
theorem bN5(s t:c5)(ih1:∀(m:List c5),j7.ok Tryz.prog (sbC s.body m))(ih2:∀(m:List c5),j7.ok Tryz.prog (sbC s.els m)):j7.ok Tryz.prog (ssC s t):=by
  refine H9 52 Tryz.func190 (at1 s t []) [(0,sA s 0),(1,sA t 4)] fun G=>?_;refine wp_seq (j9 G f8 [0,1,2,3,4,5,6,7,8,16] (at1 s t [.box (sL s 0),.box (sL t 4)]) [(2,.ptr 8 0),(3,.ptr 9 0),(4,bA false)] fun G=>b6 (wp_seq ?_));cases h0:(s.kind==t.kind)
  · have q0:=ne_of_beq_false h0;refine j9 G (K0 (fc h0 (fc (b:=false) rfl fz)) (us [(6,10,0),(1011,1011,0),(13,17,1),(1018,1018,1),(20,24,1),(1025,1025,1),(27,31,1),(1032,1032,1),(34,38,1),(1039,1039,1),(41,45,1),(1046,1046,1)])) (rg 8) (at1 s t []) [(4,bA false)] fun G=>b6 (wp_ret ?_);exact K9 false G (rg 8) (sr1 al)
  have q0:=eq_of_beq h0;cases h1:(s.target==t.target)
  · have q1:=ne_of_beq_false h1;refine j9 G (K0 (fc h0 (fc h1 (fc (b:=false) rfl fz))) (us [(6,10,0),(1011,1011,0),(13,17,1),(1018,1018,1),(20,24,2),(1025,1025,2),(27,31,2),(1032,1032,2),(34,38,2),(1039,1039,2),(41,45,2),(1046,1046,2)])) (rg 8) (at1 s t []) [(4,bA false)] fun G=>b6 (wp_ret ?_);exact K9 false G (rg 8) (sr2 al)
  have q1:=eq_of_beq h1;cases h2:(s.count==t.count)
  · have q2:=ne_of_beq_false h2;refine j9 G (K0 (fc h0 (fc h1 (fc h2 (fc (b:=false) rfl fz)))) (us [(6,10,0),(1011,1011,0),(13,17,1),(1018,1018,1),(20,24,2),(1025,1025,2),(27,31,3),(1032,1032,3),(34,38,3),(1039,1039,3),(41,45,3),(1046,1046,3)])) (rg 8) (at1 s t []) [(4,bA false)] fun G=>b6 (wp_ret ?_);exact K9 false G (rg 8) (sr3 al)
  have q2:=eq_of_beq h2;cases h3:(M5 s.index t.index)
  · refine j9 G (H5 (v7 24 [0,4] (ah1 s.index t.index) H4) (fc h0 (fc h1 (fc h2 (fc h3 (fc (b:=false) rfl fz))))) (us [(6,10,0),(1011,1011,0),(13,17,1),(1018,1018,1),(20,24,2),(1025,1025,2),(27,31,3),(1032,1032,3),(34,38,4),(1039,1039,4),(41,45,4),(1046,1046,4)])) (rg 8) (at1 s t []) [(4,bA false)] fun G=>b6 (wp_ret ?_);exact K9 false G (rg 8) (sr4 ab)
  cases h4:(M5 s.value t.value)
  · refine j9 G (H5 (v7 24 [0,4] (ah1 s.index t.index) (v7 31 [1,5] (ah1 s.value t.value) H4)) (fc h0 (fc h1 (fc h2 (fc h3 (fc h4 (fc (b:=false) rfl fz)))))) (us [(6,10,0),(1011,1011,0),(13,17,1),(1018,1018,1),(20,24,2),(1025,1025,2),(27,31,3),(1032,1032,3),(34,38,4),(1039,1039,4),(41,45,5),(1046,1046,5)])) (rg 8) (at1 s t []) [(4,bA false)] fun G=>b6 (wp_ret ?_);exact K9 false G (rg 8) (sr5 ab)
  cases h5:(A1 s.body t.body)
  · refine j9 G (H5 (v7 24 [0,4] (ah1 s.index t.index) (v7 31 [1,5] (ah1 s.value t.value) (v7 38 [2,6] (ih1 t.body) H4))) (fc h0 (fc h1 (fc h2 (fc h3 (fc h4 (fc h5 fz)))))) (us [(6,10,0),(1011,1011,0),(13,17,1),(1018,1018,1),(20,24,2),(1025,1025,2),(27,31,3),(1032,1032,3),(34,38,4),(1039,1039,4),(41,45,5),(1046,1046,5)])) (rg 8) (at1 s t []) [(4,bA false)] fun G=>b6 (wp_ret ?_);exact K9 false G (rg 8) (sr6 ab)
  refine j9 G (H5 (v7 24 [0,4] (ah1 s.index t.index) (v7 31 [1,5] (ah1 s.value t.value) (v7 38 [2,6] (ih1 t.body) (v7 45 [3,7] (ih2 t.els) H4)))) (fc h0 (fc h1 (fc h2 (fc h3 (fc h4 (fc h5 fz)))))) (us [(6,10,0),(1011,1011,0),(13,17,1),(1018,1018,1),(20,24,2),(1025,1025,2),(27,31,3),(1032,1032,3),(34,38,4),(1039,1039,4),(41,45,5),(1046,1046,5)])) (rg 8) (at1 s t []) [(4,bA (A1 s.els t.els))] fun G=>b6 (wp_ret ?_);exact K9 (A1 s.els t.els) G (rg 8) (sr8 al al al ab ab ab)
theorem aY0(l m:List c5)(ih:∀(s:c5),s∈l->∀(t:c5),j7.ok Tryz.prog (ssC s t)):j7.ok Tryz.prog (sbC l m):=by
  refine H9 27 Tryz.func173 [dT l,dT m] [(0,.ref 0),(1,.ref 1)] fun G=>?_;have hl:l.length<=9223372036854775807:=G.len 0 (d:=.stmts l) aj;refine wp_seq (E8 G f8 [(0,.ref 0),(1,.ref 1),(4,bA false)] fun G=>b6 (wp_seq (wp_seq (l6 G f8 [(10,bA ((l.length:Int) !=(m.length:Int)))] fun G=>b6 (rcN G (fun h0 q0=>?_) fun h0 q0=>?_)))))
  ·
   refine wp_skip (b6 (wp_seq (wp_seq (E8 G f8 [(0,.ref 0),(1,.ref 1),(4,bA false),(5,iA 0)] fun G=>b6 (wp_block ?_)))));refine t9 (κ:=Nat) (fun k=>k<=l.length/\l.take k=m.take k) (fun k=>l.length-k) (fun k=>[dT l,dT m]) (fun k=>[(0,.ref 0),(1,.ref 1),(4,bA false),(5,iA k)]) 0 (by simp[h0]) (v9.at G _ _) ?_;clear G;intro k ρ a w hp G;refine wp_seq (wp_seq (l6 G f8 [(14,bA (decide ((k:Int)<l.length)))] fun G=>b6 (rcD G (fun h1 q1=>?_) fun h1 q1=>?_)))
   · refine wp_exit (t7 (t7 (t5 (b6 (wp_seq (l6 G f8 [(4,bA true)] fun G=>b6 (wp_ret ?_)))))));exact K9 true G [0,1] (sb3 al hp.2 al)
   refine wp_skip (b6 (wp_seq (wp_block (wp_seq (ai3 G (v8 8 [26,27,28,29,58,59,60,61] (ih (l.getD k cm7) (ae8 al) (m.getD k cm7))) [0,0,3,7,0,0,48,112,255,511] [(26,.v (.bool !R0 (l.getD k cm7) (m.getD k cm7)))] (iX k k l.length (iX k k m.length [])) (iK al (iK al co8)) fun G=>b6 ?_)))));cases h2:(!R0 (l.getD k cm7) (m.getD k cm7))
   · have q2:(R0 (l.getD k cm7) (m.getD k cm7))=true:=(Eq.mp (cp7 _) h2);refine rF G _ h2 (wp_skip (n4 (b6 (M8 G f8 [(5,iA ((k:Int)+1))] [wO ((k:Int)+1)] (o1 al) fun G=>b6 ?_))));exact R2 G (k+1) (⟨al,ay0 hp.2 al al ((ak2 _ _).1 ab)⟩) al [0,1]
   have q2:(R0 (l.getD k cm7) (m.getD k cm7))=false:=(Eq.mp (co9 _) h2);refine rT G _ h2 (wp_seq (l6 G f8 [] fun G=>b6 (wp_ret (A3 (l0 (l0 (A3 (l0 ?_))))))));exact K9 false G [0,1] (sb2 ab)
  refine wp_seq (l6 G f8 [] fun G=>b6 (wp_ret (l0 ?_)));exact K9 false G [0,1] (sb1 al)
theorem bX9(s:c5):∀(t:c5),j7.ok Tryz.prog (ssC s t):=
 c5.ind (P:=fun s=>∀(t:c5),j7.ok Tryz.prog (ssC s t)) (fun k t i v c b e h1 h2 u=>bN5 ⟨k,t,i,v,c,b,e⟩ u (fun m=>aY0 b m fun s hs=>h1 s hs) fun m=>aY0 e m fun s hs=>h2 s hs) s
theorem bS4(l m:List c5):j7.ok Tryz.prog (sbC l m):=aY0 l m fun s _=>bX9 s
theorem aQ2(xs xt:List Int)(l:List c5)(ys yt:List Int)(m:List c5):j7.ok Tryz.prog (T7 128 [pA 0,pA 3] [dI xs,dI xt,dT l,dI ys,dI yt,dT m] (bA (decide (xs=ys)&&(decide (xt=yt)&&A1 l m)))):=by
  refine H9 24 Tryz.func128 [dI xs,dI xt,dT l,dI ys,dI yt,dT m] [(0,pA 0),(1,pA 3)] fun G=>?_;refine wp_seq (j9 G f8 [0,1,2,3,4,5,6,14] [dI xs,dI xt,dT l,dI ys,dI yt,dT m,.box (pL 0),.box (pL 3)] [(2,.ptr 6 0),(3,.ptr 7 0),(4,bA false)] fun G=>b6 (wp_seq ?_));cases h0:(decide (xs=ys))
  · have q0:=dFf h0;refine j9 G (H5 (v7 4 [0,3] (am1 xs ys) H4) (fc h0 (fc (b:=false) rfl fz)) (us [(6,10,0),(1011,1011,0),(13,17,1),(1018,1018,1)])) (rg 6) [dI xs,dI xt,dT l,dI ys,dI yt,dT m] [(4,bA false)] fun G=>b6 (wp_ret ?_);exact O7 G (rg 6)
  have q0:=dTt h0;cases h1:(decide (xt=yt))
  · have q1:=dFf h1;refine j9 G (H5 (v7 4 [0,3] (am1 xs ys) (v7 10 [1,4] (am1 xt yt) H4)) (fc h0 (fc h1 fz)) (us [(6,10,0),(1011,1011,0),(13,17,1),(1018,1018,1)])) (rg 6) [dI xs,dI xt,dT l,dI ys,dI yt,dT m] [(4,bA false)] fun G=>b6 (wp_ret ?_);exact O7 G (rg 6)
  have q1:=dTt h1;refine j9 G (H5 (v7 4 [0,3] (am1 xs ys) (v7 10 [1,4] (am1 xt yt) (v7 17 [2,5] (bS4 l m) H4))) (fc h0 (fc h1 fz)) (us [(6,10,0),(1011,1011,0),(13,17,1),(1018,1018,1)])) (rg 6) [dI xs,dI xt,dT l,dI ys,dI yt,dT m] [(4,bA (A1 l m))] fun G=>b6 (wp_ret ?_);exact O7 G (rg 6)
theorem ab6(vs ars:List Int)(b:List c5)(e:c6)(he:i6 vs.length ars.length 5 e=true):j7.ok Tryz.prog (T7 139 [pA 0,eA e 3] ([dI vs,dI ars,dT b]++eS e) (iA (i9 vs ars 5 e))):=O3 ⟨vs,ars,b⟩ e he
theorem ao8(vs ars:List Int)(b:List c5)(hb:vs.length+ars.length+j5 b<=1048576):j7.ok Tryz.prog ⟨90,[pA 0],[dI vs,dI ars,dT b],[dI vs,dI ars,dT b,.row 3 (.ints vs),.row 3 (.ints ars),.tree (.stmts b)],oA 3⟩:=bK4 ⟨vs,ars,b⟩ hb
theorem Z9(vs ars:List Int)(b:List c5)(hb:j5 b<=1048576):j7.ok Tryz.prog (T7 89 [pA 0] [dI vs,dI ars,dT b] (.tup [iA (X4 ⟨vs,ars,b⟩ false).1,iA (X4 ⟨vs,ars,b⟩ false).2])):=ba7 ⟨vs,ars,b⟩ hb
section
variable{vs ars:List Int}{cx:Int}{s:c5}{d:Nat}{b:Bool}
theorem on1(k:s.kind=1):L8 (vs,ars) s cx=(vs.set s.target.toNat (l5 (l5 (vs.getD s.target.toNat 0) (i9 vs ars 5 s.value)) cx),ars):=if_pos k
theorem on2(k:s.kind=2):L8 (vs,ars) s cx=(vs,ars.set s.target.toNat (l5 (l5 (l5 (ars.getD s.target.toNat 0) (i9 vs ars 5 s.value)) (i9 vs ars 5 s.index)) cx)):=by unfold L8;rw[if_neg al,if_pos k]
theorem on0{q:N8}(k1:¬s.kind=1)(k2:¬s.kind=2):L8 q s cx=q:=by unfold L8;rw[if_neg k1,if_neg k2]
theorem up1{q:N8}(h1:s.body=[])(h2:s.els=[]):upS b (d+1) q cx s=L8 q s cx:=by rw[aj6,h1,h2];rfl
theorem up3{q:N8}(k:s.kind=3):upS true (d+1) q cx s=C0 true d (C0 true d q (l5 cx (i9 q.1 q.2 5 s.value)) s.body) (l5 cx (i9 (C0 true d q (l5 cx (i9 q.1 q.2 5 s.value)) s.body).1 (C0 true d q (l5 cx (i9 q.1 q.2 5 s.value)) s.body).2 5 s.value)) s.els:=by
 rw[aj6,on0 al al]
 unfold ai4
 simp only[if_pos k,if_true]
theorem up4{q:N8}(k:s.kind=4)(h2:s.els=[]):upS b (d+1) q cx s=C0 b d q cx s.body:=by
 rw[aj6,on0 al al,h2]
 unfold ai4
 simp only[if_neg (show ¬s.kind=3 by omega)]
 rfl
theorem aj7{q:N8}{ss:List c5}{k:Nat}(hk:k<ss.length):C0 b d q cx (ss.take (k+1))=upS b d (C0 b d q cx (ss.take k)) cx (ss.getD k cm7):=by
 unfold C0
 rw[n7 _ _ hk,List.foldl_append,m6 hk];rfl
theorem aE7{nv na d k:Nat}{ss:List c5}(hs:ss.all (j6 nv na (d+1))=true)(hk:k<ss.length)(k3:¬(ss.getD k cm7).kind=3):(ss.getD k cm7).els=[]/\(¬(ss.getD k cm7).kind=4->(ss.getD k cm7).body=[]):=by
 have h0:=cn8.1 hs _ (co6 hk)
 rw[<-m6 (d:=cm7) hk]at h0
 rw[j6,cm9]at h0
 have h1:=h0.1
 unfold r8 at h1
 by_cases k4:(ss.getD k cm7).kind=4
 ·rw[if_pos (.inr k4),if_pos k4]at h1
  simp only[cm9,decide_eq_true_eq]at h1
  exact⟨co7 h1.2.1.1.1.1,fun h=>absurd k4 h⟩
 rw[if_neg al]at h1
 simp only[cm9,decide_eq_true_eq]at h1
 exact⟨co7 h1.1.1.2,fun _=>co7 h1.1.1.1⟩
section
variable{nv na d k:Nat}{ss:List c5}{q:N8}{cx:Int}
theorem rn1(hs:ss.all (j6 nv na (d+1))=true)(hk:k<ss.length)(k1:(ss.getD k cm7).kind=1):C0 true (d+1) q cx (ss.take (k+1))=((C0 true (d+1) q cx (ss.take k)).1.set (ss.getD k cm7).target.toNat (l5 (l5 ((C0 true (d+1) q cx (ss.take k)).1.getD (ss.getD k cm7).target.toNat 0) (i9 (C0 true (d+1) q cx (ss.take k)).1 (C0 true (d+1) q cx (ss.take k)).2 5 (ss.getD k cm7).value)) cx),(C0 true (d+1) q cx (ss.take k)).2):=by
 have h1:=aE7 hs hk al
 rw[aj7 hk,up1 (h1.2 al) h1.1]
 exact on1 k1
theorem rn2(hs:ss.all (j6 nv na (d+1))=true)(hk:k<ss.length)(k2:(ss.getD k cm7).kind=2):C0 true (d+1) q cx (ss.take (k+1))=((C0 true (d+1) q cx (ss.take k)).1,(C0 true (d+1) q cx (ss.take k)).2.set (ss.getD k cm7).target.toNat (l5 (l5 (l5 ((C0 true (d+1) q cx (ss.take k)).2.getD (ss.getD k cm7).target.toNat 0) (i9 (C0 true (d+1) q cx (ss.take k)).1 (C0 true (d+1) q cx (ss.take k)).2 5 (ss.getD k cm7).value)) (i9 (C0 true (d+1) q cx (ss.take k)).1 (C0 true (d+1) q cx (ss.take k)).2 5 (ss.getD k cm7).index)) cx)):=by
 have h1:=aE7 hs hk al
 rw[aj7 hk,up1 (h1.2 al) h1.1]
 exact on2 k2
theorem rn3(hk:k<ss.length)(k3:(ss.getD k cm7).kind=3):C0 true (d+1) q cx (ss.take (k+1))=C0 true d (C0 true d (C0 true (d+1) q cx (ss.take k)) (l5 cx (i9 (C0 true (d+1) q cx (ss.take k)).1 (C0 true (d+1) q cx (ss.take k)).2 5 (ss.getD k cm7).value)) (ss.getD k cm7).body) (l5 cx (i9 (C0 true d (C0 true (d+1) q cx (ss.take k)) (l5 cx (i9 (C0 true (d+1) q cx (ss.take k)).1 (C0 true (d+1) q cx (ss.take k)).2 5 (ss.getD k cm7).value)) (ss.getD k cm7).body).1 (C0 true d (C0 true (d+1) q cx (ss.take k)) (l5 cx (i9 (C0 true (d+1) q cx (ss.take k)).1 (C0 true (d+1) q cx (ss.take k)).2 5 (ss.getD k cm7).value)) (ss.getD k cm7).body).2 5 (ss.getD k cm7).value)) (ss.getD k cm7).els:=by
 rw[aj7 hk,up3 k3]
theorem rn4(hs:ss.all (j6 nv na (d+1))=true)(hk:k<ss.length)(k4:(ss.getD k cm7).kind=4):C0 true (d+1) q cx (ss.take (k+1))=C0 true d (C0 true (d+1) q cx (ss.take k)) cx (ss.getD k cm7).body:=by
 rw[aj7 hk,up4 k4 (aE7 hs hk al).1]
theorem rn0(hs:ss.all (j6 nv na (d+1))=true)(hk:k<ss.length)(k1:¬(ss.getD k cm7).kind=1)(k2:¬(ss.getD k cm7).kind=2)(k3:¬(ss.getD k cm7).kind=3)(k4:¬(ss.getD k cm7).kind=4):C0 true (d+1) q cx (ss.take (k+1))=C0 true (d+1) q cx (ss.take k):=by
 have h1:=aE7 hs hk k3
 rw[aj7 hk,up1 (h1.2 k4) h1.1,on0 k1 k2]
theorem bB8(hk:ss.length<=k):C0 true (d+1) q cx ss=C0 true (d+1) q cx (ss.take k):=by rw[co3 hk]
theorem aX7{q r:N8}{s:c5}(h:shP q r)(hv:q.1.length=nv)(ha:q.2.length=na)(hh:F0 nv na s=true)(k:¬s.kind=4):i6 r.1.length r.2.length 5 s.value=true:=by rw[h.1,h.2,hv,ha];exact B6 hh k
theorem bX6{q r:N8}{s:c5}(h:shP q r)(hv:q.1.length=nv)(ha:q.2.length=na)(hh:F0 nv na s=true)(k:s.kind=2):i6 r.1.length r.2.length 5 s.index=true:=by rw[h.1,h.2,hv,ha];exact aM6 hh k
end
end
abbrev raC(vs ars:List Int)(d:Nat)(bd ss:List c5)(cx:Int):j7:=⟨127,[pA 0,.ref 3,iA cx],[.row 3 (.ints vs),.row 3 (.ints ars),dT bd,dT ss],[.row 3 (.ints (C0 true d (vs,ars) cx ss).1),.row 3 (.ints (C0 true d (vs,ars) cx ss).2),dT bd,dT ss],.tup []⟩
abbrev aj1(d:Nat)(ss:List c5)(vs:List Int)(ars:List Int)(cx:Int)(k:Nat):=C0 true d (C0 true (d+1) (vs,ars) cx (cn7 k ss)) (l5 cx (i9 (C0 true (d+1) (vs,ars) cx (cn7 k ss)).fst (C0 true (d+1) (vs,ars) cx (cn7 k ss)).snd 5 (ss.getD k cm7).value)) (ss.getD k cm7).body
abbrev x7(d:Nat)(ss:List c5)(vs:List Int)(ars:List Int)(cx:Int)(k:Nat):=C0 true (d+1) (vs,ars) cx (cn7 k ss)
abbrev bl0(d:Nat)(ss:List c5)(vs:List Int)(ars:List Int)(cx:Int)(k:Nat):=C0 true d (aj1 d ss vs ars cx k) (l5 cx (i9 (aj1 d ss vs ars cx k).fst (aj1 d ss vs ars cx k).snd 5 (ss.getD k cm7).value)) (ss.getD k cm7).els
abbrev aG2(cx:Int)(k:Nat)(r0:List (Nat×AV)):List (Nat×AV):=(1,.ref 3)::(2,iA cx)::(3,.ptr 4 0)::(6,iA (k:Int))::r0
theorem aS5(nv na d:Nat)(bd ss:List c5)(ih:∀(vs ars:List Int) (tt:List c5) (cx:Int),0<ss.length->vs.length=nv->ars.length=na->tt.all (j6 nv na d)=true->j7.ok Tryz.prog (raC vs ars d bd tt cx))
    (vs ars:List Int) (cx:Int) (hv:vs.length=nv) (ha:ars.length=na) (hs:ss.all (j6 nv na (d+1))=true):j7.ok Tryz.prog (raC vs ars (d+1) bd ss cx):=by
  refine H9 94 Tryz.func127 [.row 3 (D.ints vs),.row 3 (D.ints ars),dT bd,dT ss] [(0,pA 0),(1,.ref 3),(2,iA cx)] fun G=>?_;have hlen:ss.length<=9223372036854775807:=G.len 3 (d:=.stmts ss) aj;refine wp_seq (j9 G f8 (rg 5) [.row 3 (D.ints vs),.row 3 (D.ints ars),dT bd,dT ss,.box (pL 0)] [(1,.ref 3),(2,iA cx),(3,.ptr 4 0)] fun G=>b6 (wp_seq (E8 G f8 [(1,.ref 3),(2,iA cx),(3,.ptr 4 0),(6,iA 0)] fun G=>b6 (wp_block ?_))));refine t9 (κ:=Nat) (fun k=>k<=ss.length) (fun k=>ss.length-k) (fun k=>[.row 3 (.ints (C0 true (d+1) (vs,ars) cx (ss.take k)).1),.row 3 (.ints (C0 true (d+1) (vs,ars) cx (ss.take k)).2),dT bd,dT ss,.box (pL 0)]) (fun k=>[(1,.ref 3),(2,iA cx),(3,.ptr 4 0),(6,iA k)]) 0 al (v9.at G _ _) ?_;clear G;intro k ρ a w hp G;replace G:=v9.at G [.row 3 (D.ints (x7 d ss vs ars cx k).fst),.row 3 (D.ints (x7 d ss vs ars cx k).snd),dT bd,dT ss,.box (pL 0)] (aG2 cx k []);have hsh:shP (vs,ars) (C0 true (d+1) (vs,ars) cx (ss.take k)):=ar2;refine wp_seq (wp_seq (l6 G f8 [(11,bA (decide ((k:Int)<ss.length)))] fun G=>b6 (rcD G (fun h0 q0=>?_) fun h0 q0=>?_)))
  · refine wp_exit (t7 (t7 (t5 ?_)));exact cg9 G (rg 4) (by show _=mR (rg 4) [.row 3 (D.ints (C0 true (d+1) (vs,ars) cx ss).fst),.row 3 (D.ints (C0 true (d+1) (vs,ars) cx ss).snd),dT bd,dT ss];have e1:((C0 true (d+1) (vs,ars) cx ss).fst:List Int)=((x7 d ss vs ars cx k).fst):=(congrArg Prod.fst (bB8 al));have e2:((C0 true (d+1) (vs,ars) cx ss).snd:List Int)=((x7 d ss vs ars cx k).snd):=(congrArg Prod.snd (bB8 al));(first|rw[e1,e2]|simp only[e1,e2])<;>rfl)
  refine wp_skip (b6 (wp_seq (wp_block (wp_seq (Z5 G f8 [0,1,2,3,4,29,30,31,32,37] [.row 3 (D.ints (x7 d ss vs ars cx k).fst),.row 3 (D.ints (x7 d ss vs ars cx k).snd),dT bd,dT ss,.box (pL 0),dE (ss.getD k cm7).index.kids,dE (ss.getD k cm7).value.kids,dT (ss.getD k cm7).body,dT (ss.getD k cm7).els,.box (sL (ss.getD k cm7) 5)] (aG2 cx k [(7,.ptr 9 0)]) (iX k k ss.length []) (iK al co8) fun G=>b6 (wp_seq (l6 G f8 [(19,iA (ss.getD k cm7).kind)] fun G=>b6 (wp_block (wp_seq (l6 G f8 [(20,bA ((ss.getD k cm7).kind==1))] fun G=>b6 (Q7 G (fun h1 q1=>?_) fun h1 q1=>?_)))))))))))
  ·
   refine wp_seq (l6 G f8 [(40,bA ((ss.getD k cm7).kind==2))] fun G=>b6 (Q7 G (fun h2 q2=>?_) fun h2 q2=>?_))
   ·
    refine wp_seq (l6 G f8 [(65,bA ((ss.getD k cm7).kind==3))] fun G=>b6 (Q7 G (fun h3 q3=>?_) fun h3 q3=>?_))
    ·
     refine wp_seq (l6 G f8 [(87,bA ((ss.getD k cm7).kind==4))] fun G=>b6 (Q7 G (fun h4 q4=>?_) fun h4 q4=>?_))
     · refine wp_skip (n4 (n4 (b6 (Z5 G f8 (rg 5) [.row 3 (D.ints (x7 d ss vs ars cx k).fst),.row 3 (D.ints (x7 d ss vs ars cx k).snd),dT bd,dT ss,.box (pL 0)] [(1,.ref 3),(2,iA cx),(3,.ptr 4 0),(6,iA ((k:Int)+1))] [wO ((k:Int)+1)] (o1 al) fun G=>b6 ?_))));exact R2 G (k+1) al al (rg 5) (by have e1:((C0 true (d+1) (vs,ars) cx (cn7 (k+1) ss)).fst:List Int)=((x7 d ss vs ars cx k).fst):=(congrArg Prod.fst (rn0 hs al al al al al));have e2:((C0 true (d+1) (vs,ars) cx (cn7 (k+1) ss)).snd:List Int)=((x7 d ss vs ars cx k).snd):=(congrArg Prod.snd (rn0 hs al al al al al));(first|rw[e1,e2]|simp only[e1,e2])<;>rfl)
     refine j9 G (v8 4 [0,1,2,7] (ih ((x7 d ss vs ars cx k).fst) ((x7 d ss vs ars cx k).snd) ((ss.getD k cm7).body) cx al (hsh.1.trans hv) (hsh.2.trans ha) ((U4 hs al).2.1))) (rg 5) [.row 3 (D.ints (C0 true d (x7 d ss vs ars cx k) cx (ss.getD k cm7).body).fst),.row 3 (D.ints (C0 true d (x7 d ss vs ars cx k) cx (ss.getD k cm7).body).snd),dT bd,dT ss,.box (pL 0)] (aG2 cx k []) fun G=>n4 (n4 (b6 (M8 G f8 [(6,iA ((k:Int)+1))] [wO ((k:Int)+1)] (o1 al) fun G=>b6 ?_)));exact R2 G (k+1) al al (rg 5) (by have e1:((C0 true (d+1) (vs,ars) cx (cn7 (k+1) ss)).fst:List Int)=((C0 true d (x7 d ss vs ars cx k) cx (ss.getD k cm7).body).fst):=(congrArg Prod.fst (rn4 hs al al));have e2:((C0 true (d+1) (vs,ars) cx (cn7 (k+1) ss)).snd:List Int)=((C0 true d (x7 d ss vs ars cx k) cx (ss.getD k cm7).body).snd):=(congrArg Prod.snd (rn4 hs al al));(first|rw[e1,e2]|simp only[e1,e2])<;>rfl)
    refine wp_seq (af6 G (H5 (v7 7 [0,1,2,6] (j7.lend (ab6 ((x7 d ss vs ars cx k).fst) ((x7 d ss vs ars cx k).snd) bd ((ss.getD k cm7).value) (aX7 hsh hv ha (U4 hs al).1 al)) [.row 3,.row 3]) (v7 9 [0,1,2,7] (ih ((x7 d ss vs ars cx k).fst) ((x7 d ss vs ars cx k).snd) ((ss.getD k cm7).body) (l5 cx (i9 (x7 d ss vs ars cx k).fst (x7 d ss vs ars cx k).snd 5 (ss.getD k cm7).value)) al (hsh.1.trans hv) (hsh.2.trans ha) ((U4 hs al).2.1)) H4)) fz []) [0,0,2,0,0,0,32,112,248,511] (rg 10) [.row 3 (D.ints (aj1 d ss vs ars cx k).fst),.row 3 (D.ints (aj1 d ss vs ars cx k).snd),dT bd,dT ss,.box (pL 0),dE (ss.getD k cm7).index.kids,dE (ss.getD k cm7).value.kids,dT (ss.getD k cm7).body,dT (ss.getD k cm7).els,.box (sL (ss.getD k cm7) 5)] (aG2 cx k [(7,.ptr 9 0)]) fun G=>b6 (af6 G (H5 (v7 7 [0,1,2,6] (j7.lend (ab6 ((aj1 d ss vs ars cx k).fst) ((aj1 d ss vs ars cx k).snd) bd ((ss.getD k cm7).value) (aX7 (hsh.trans ar2) hv ha (U4 hs al).1 al)) [.row 3,.row 3]) (v7 9 [0,1,2,8] (ih ((aj1 d ss vs ars cx k).fst) ((aj1 d ss vs ars cx k).snd) ((ss.getD k cm7).els) (l5 cx (i9 (aj1 d ss vs ars cx k).fst (aj1 d ss vs ars cx k).snd 5 (ss.getD k cm7).value)) al ((hsh.trans ar2).1.trans hv) ((hsh.trans ar2).2.trans ha) ((U4 hs al).2.2)) H4)) fz []) [0,0,2,0,0,0,32,112,248,511] (rg 5) [.row 3 (D.ints (bl0 d ss vs ars cx k).fst),.row 3 (D.ints (bl0 d ss vs ars cx k).snd),dT bd,dT ss,.box (pL 0)] (aG2 cx k []) fun G=>n4 (n4 (b6 (M8 G f8 [(6,iA ((k:Int)+1))] [wO ((k:Int)+1)] (o1 al) fun G=>b6 ?_)))));exact R2 G (k+1) al al (rg 5) (by have e1:((C0 true (d+1) (vs,ars) cx (cn7 (k+1) ss)).fst:List Int)=((bl0 d ss vs ars cx k).fst):=(congrArg Prod.fst (rn3 al al));have e2:((C0 true (d+1) (vs,ars) cx (cn7 (k+1) ss)).snd:List Int)=((bl0 d ss vs ars cx k).snd):=(congrArg Prod.snd (rn3 al al));(first|rw[e1,e2]|simp only[e1,e2])<;>rfl)
   refine R3 G (H5 (v7 13 [0,1,2,6] (j7.lend (ab6 ((x7 d ss vs ars cx k).fst) ((x7 d ss vs ars cx k).snd) bd ((ss.getD k cm7).value) (aX7 hsh hv ha (U4 hs al).1 al)) [.row 3,.row 3]) (v7 18 [0,1,2,5] (j7.lend (ab6 ((x7 d ss vs ars cx k).fst) ((x7 d ss vs ars cx k).snd) bd ((ss.getD k cm7).index) (bX6 hsh hv ha (U4 hs al).1 al)) [.row 3,.row 3]) H4)) fz []) [0,1,0,4,0,16,0,64,240,496,0,0,2048,7168,16368,0,0,65536,244736,524272,0,2097136,4194303,8388607] (rg 5) [.row 3 (D.ints (x7 d ss vs ars cx k).fst),.row 3 (D.ints ((x7 d ss vs ars cx k).snd.set (ss.getD k cm7).target.toNat (l5 (l5 (l5 ((x7 d ss vs ars cx k).snd.getD (ss.getD k cm7).target.toNat 0) (i9 (x7 d ss vs ars cx k).fst (x7 d ss vs ars cx k).snd 5 (ss.getD k cm7).value)) (i9 (x7 d ss vs ars cx k).fst (x7 d ss vs ars cx k).snd 5 (ss.getD k cm7).index)) cx))),dT bd,dT ss,.box (pL 0)] (aG2 cx k []) (iX ((ss.getD k cm7).target) ((ss.getD k cm7).target.toNat) ((C0 true (d+(1:Nat)) (vs,ars) cx (cn7 k ss)).snd.length) (iX ((ss.getD k cm7).target) ((ss.getD k cm7).target.toNat) ((C0 true (d+(1:Nat)) (vs,ars) cx (cn7 k ss)).snd.length) [])) (iK (by have h9:=aM7 (U4 (k:=k) hs al).1 al;have h8:=hsh.2.trans ha;omega) (iK (by have h9:=aM7 (U4 (k:=k) hs al).1 al;have h8:=hsh.2.trans ha;omega) co8)) fun G=>n4 (n4 (b6 (M8 G f8 [(6,iA ((k:Int)+1))] [wO ((k:Int)+1)] (o1 al) fun G=>b6 ?_)));exact R2 G (k+1) al al (rg 5) (by have e2:((C0 true (d+1) (vs,ars) cx (cn7 (k+1) ss)).snd:List Int)=((x7 d ss vs ars cx k).snd.set (ss.getD k cm7).target.toNat (l5 (l5 (l5 ((x7 d ss vs ars cx k).snd.getD (ss.getD k cm7).target.toNat 0) (i9 (x7 d ss vs ars cx k).fst (x7 d ss vs ars cx k).snd 5 (ss.getD k cm7).value)) (i9 (x7 d ss vs ars cx k).fst (x7 d ss vs ars cx k).snd 5 (ss.getD k cm7).index)) cx)):=(congrArg Prod.snd (rn2 hs al al));have h9:=rn2 (q:=(vs,ars)) (cx:=cx) hs (show k<_ by omega) al;rw[e2,h9]<;>rfl)
  refine R3 G (v8 13 [0,1,2,6] (j7.lend (ab6 ((x7 d ss vs ars cx k).fst) ((x7 d ss vs ars cx k).snd) bd ((ss.getD k cm7).value) (aX7 hsh hv ha (U4 hs al).1 al)) [.row 3,.row 3])) [0,1,0,4,0,16,0,64,240,496,0,0,2048,7168,16368,0,65520,131071,262143] (rg 5) [.row 3 (D.ints ((x7 d ss vs ars cx k).fst.set (ss.getD k cm7).target.toNat (l5 (l5 ((x7 d ss vs ars cx k).fst.getD (ss.getD k cm7).target.toNat 0) (i9 (x7 d ss vs ars cx k).fst (x7 d ss vs ars cx k).snd 5 (ss.getD k cm7).value)) cx))),.row 3 (D.ints (x7 d ss vs ars cx k).snd),dT bd,dT ss,.box (pL 0)] (aG2 cx k []) (iX ((ss.getD k cm7).target) ((ss.getD k cm7).target.toNat) ((C0 true (d+(1:Nat)) (vs,ars) cx (cn7 k ss)).fst.length) (iX ((ss.getD k cm7).target) ((ss.getD k cm7).target.toNat) ((C0 true (d+(1:Nat)) (vs,ars) cx (cn7 k ss)).fst.length) [])) (iK (by have h9:=aM5 (U4 (k:=k) hs al).1 al;have h8:=hsh.1.trans hv;omega) (iK (by have h9:=aM5 (U4 (k:=k) hs al).1 al;have h8:=hsh.1.trans hv;omega) co8)) fun G=>n4 (n4 (b6 (M8 G f8 [(6,iA ((k:Int)+1))] [wO ((k:Int)+1)] (o1 al) fun G=>b6 ?_)));exact R2 G (k+1) al al (rg 5) (by have e1:((C0 true (d+1) (vs,ars) cx (cn7 (k+1) ss)).fst:List Int)=((x7 d ss vs ars cx k).fst.set (ss.getD k cm7).target.toNat (l5 (l5 ((x7 d ss vs ars cx k).fst.getD (ss.getD k cm7).target.toNat 0) (i9 (x7 d ss vs ars cx k).fst (x7 d ss vs ars cx k).snd 5 (ss.getD k cm7).value)) cx)):=(congrArg Prod.fst (rn1 hs al al));have h9:=rn1 (q:=(vs,ars)) (cx:=cx) hs (show k<_ by omega) al;rw[e1,h9]<;>rfl)
theorem bi9(nv na:Nat)(bd:List c5):∀(d:Nat) (vs ars:List Int) (ss:List c5) (cx:Int),vs.length=nv->ars.length=na->ss.all (j6 nv na d)=true->j7.ok Tryz.prog (raC vs ars d bd ss cx):=by
 intro d
 induction d with
 | zero =>
  intro vs ars ss cx hv ha hs
  have h0:ss=[]:=by
   cases ss with
   |nil=>rfl
   |cons a r=>simp[j6]at hs
  subst h0
  exact aS5 nv na 0 bd [] (fun _ _ _ _ h=>absurd h ao) vs ars cx hv ha rfl
 |succ d ih=>intro vs ars ss cx hv ha hs;exact aS5 nv na d bd ss (fun vs ars tt cx _ h1 h2 h3=>ih vs ars tt cx h1 h2 h3) vs ars cx hv ha hs
theorem bi8(vs ars:List Int)(b:List c5)(hs:b.all (j6 vs.length ars.length 5)=true):j7.ok Tryz.prog ⟨127,[pA 0,.ref 2,iA 0],[.row 3 (.ints vs),.row 3 (.ints ars),dT b],[.row 3 (.ints (C0 true 5 (vs,ars) 0 b).1),.row 3 (.ints (C0 true 5 (vs,ars) 0 b).2),dT b],.tup []⟩:=
 j7.dup (S:=[.row 3 (.ints vs),.row 3 (.ints ars),dT b]) (S':=[.row 3 (.ints (C0 true 5 (vs,ars) 0 b).1),.row 3 (.ints (C0 true 5 (vs,ars) 0 b).2),dT b]) (d:=.stmts b) (i:=2) (bi9 _ _ b 5 vs ars b 0 rfl rfl hs) rfl rfl rfl (fun ρ h=>by simp only[AV.vals,AV.val];rw[show ρ 3=ρ 2 from h]) rfl
def okI(p:i7):Bool:=l9 p&&decide ((X4 ⟨(ay9 p).1,(ay9 p).2,p.body⟩ false).1=0)
def ai5(p:i7):i7:=if okI p=true then⟨(ay9 p).1,(ay9 p).2,p.body⟩else⟨[],[],[]⟩
theorem aJ6{p:i7}(h:l9 p=true):p.vars.length+p.arrays.length<=14:=by
 unfold l9 G5 at h
 simp only[cm9,decide_eq_true_eq]at h
 omega
section
variable{p:i7}{q:N8}{b:List c5}{X:N8}
theorem ae2(h:(decide (X.1=q.1)&&(decide (X.2=q.2)&&A1 b b))=true):X=q:=by
 simp only[cm9,decide_eq_true_eq]at h
 exact Prod.ext h.1 h.2.1
theorem bd9(h:(decide (X.1=q.1)&&(decide (X.2=q.2)&&A1 b b))=false):¬X=q:=fun e=>by
 subst e
 rw[(K8 b b).2 rfl]at h
 simp at h
theorem bG4{f:Bool}(hp:l9 p=true)(h:ai9 p.body (p.vars,p.arrays) q)(hne:¬C0 f 5 q 0 p.body=q):100-aP3 (C0 f 5 q 0 p.body)<100-aP3 q:=by
 have h1:=an6 (f:=f) h
 have h2:=bm7 ar2 h.2.1 h1.2.1 aI0 hne
 have h3:=a35 h1.2.1
 have h4:=aJ6 hp
 rw[h1.1.1,h1.1.2]at h3
 simp only at h3
 omega
theorem bQ3(hb:p.size<=1048576)(h:ai9 p.body (p.vars,p.arrays) q):q.1.length+q.2.length+j5 p.body<=1048576:=by
 have h1:=h.1.1
 have h2:=h.1.2
 unfold i7.size at hb
 simp only at h1 h2
 omega
theorem bu8(hp:l9 p=true)(h:ai9 p.body (p.vars,p.arrays) q):p.body.all (j6 q.1.length q.2.length 5)=true:=by
 rw[h.1.1,h.1.2];exact(ay6 hp).1
theorem bD8(h:l9 p=false):okI p=false:=by unfold okI;rw[h];rfl
theorem bD9(hp:l9 p=true)(h:ai9 p.body (p.vars,p.arrays) q)(hf:C0 true 5 q 0 p.body=q):okI p=decide ((X4 ⟨q.1,q.2,p.body⟩ false).1=0):=by
 unfold okI;rw[hp,bp8 hp (aJ6 hp) h hf];rfl
theorem bp7(h:okI p=false):ai5 p=⟨[],[],[]⟩:=by unfold ai5;rw[h];rfl
theorem bQ5(hp:l9 p=true)(h:ai9 p.body (p.vars,p.arrays) q)(hf:C0 true 5 q 0 p.body=q)(hk:okI p=true):ai5 p=⟨q.1,q.2,p.body⟩:=by unfold ai5;rw[hk,bp8 hp (aJ6 hp) h hf];rfl
theorem b94(hp:l9 p=true)(h:ai9 p.body (p.vars,p.arrays) q)(hf:C0 true 5 q 0 p.body=q)(hc:(X4 ⟨q.1,q.2,p.body⟩ false).1=0):okI p=true:=by rw[bD9 hp h hf];exact decide_eq_true hc
theorem b95(hp:l9 p=true)(h:ai9 p.body (p.vars,p.arrays) q)(hf:C0 true 5 q 0 p.body=q)(hc:¬(X4 ⟨q.1,q.2,p.body⟩ false).1=0):okI p=false:=by rw[bD9 hp h hf];exact decide_eq_false hc
end
abbrev aQ9(p:i7):List It:=[dI p.vars,dI p.arrays,dT p.body,.row 3 (D.ints (ai5 p).vars),.row 3 (D.ints (ai5 p).arrays),.tree (D.stmts (ai5 p).body)]
abbrev aA8:It:=.box [.v (.slice none 0 0),.v (.slice none 0 0),.v (.slice none 0 0)]
abbrev aG9:It:=.box [.ref 4,.ref 5,.tref 6]
abbrev as9(p:i7)(q:N8)(r0:List It):List It:=.row 3 (D.ints q.fst)::.row 3 (D.ints q.snd)::.tree (D.stmts p.body)::r0
abbrev aj0(r0:List (Nat×AV)):List (Nat×AV):=(2,.ptr 3 0)::(3,bA false)::(4,.ptr 7 0)::r0
abbrev Y4(p:i7)(r0:List It):List It:=dI p.vars::dI p.arrays::dT p.body::r0
theorem aQ3(p:i7)(hb:p.size<=1048576):j7.ok Tryz.prog ⟨87,[pA 0],pS p,pS p++oP (ai5 p),.tup [oA 3,bA (okI p)]⟩:=by
  refine H9 33 Tryz.func87 (Y4 p []) [(0,pA 0)] fun G=>?_
  have hb1:p.vars.length<=1048576/\p.arrays.length<=1048576/\j5 p.body<=1048576:=by unfold i7.size at hb;omega
  refine wp_seq (j9 G f8 [0,1,2,3,11] (Y4 p [.box (pL 0),aA8]) [(1,.ptr 3 0),(2,.ptr 4 0),(3,bA false)] fun G=>b6 (wp_seq (wp_seq (l6 G (v8 1 [0,1,2] (S6 p al)) [(10,.v (.bool !l9 p))] fun G=>b6 ?_))));cases h0:(!l9 p)
  ·
   have q0:(l9 p)=true:=(Eq.mp (cp7 _) h0);refine rF G _ h0 (wp_skip (b6 (wp_seq (j9 G (v8 1 [0,1,2] (ao8 p.vars p.arrays p.body ai)) [0,1,2,4,13,14,15,21] (Y4 p [aA8,.row 3 (D.ints p.vars),.row 3 (D.ints p.arrays),.tree (D.stmts p.body),aG9]) (aj0 []) fun G=>b6 (wp_seq (wp_block ?_))))));refine t9 (κ:=N8) (fun q=>ai9 p.body (p.vars,p.arrays) q) (fun q=>100-aP3 q) (fun q=>(Y4 p [aA8,.row 3 (.ints q.1),.row 3 (.ints q.2),.tree (D.stmts p.body),aG9])) (fun q=>(aj0 [])) ((p.vars,p.arrays)) (as1 (a00 ab)) (v9.at G _ _) ?_;clear G;intro q ρ a w hp G;replace G:=v9.at G (Y4 p (aA8::(as9 p q [aG9]))) (aj0 []);refine wp_block (wp_seq (j9 G (v8 1 [4,5,6] (j7.lend (ao8 q.fst q.snd p.body (bQ3 hb ab)) [.row 3,.row 3,.tree])) [0,1,2,3,4,5,6,7,16,17,18,24] (Y4 p (aA8::(as9 p q (aG9::(as9 p q [.box [.ref 8,.ref 9,.tref 10]]))))) (aj0 [(5,.ptr 11 0)]) fun G=>b6 (wp_seq (j9 G (v8 3 [8,9,10] (j7.lend (bi8 q.fst q.snd p.body (bu8 ab ab)) [.no,.no,.tree])) (rg 12) (Y4 p (aA8::(as9 p q [aG9,.row 3 (D.ints (C0 true 5 q 0 p.body).fst),.row 3 (D.ints (C0 true 5 q 0 p.body).snd),.tree (D.stmts p.body),.box [.ref 8,.ref 9,.tref 10]]))) (aj0 [(5,.ptr 11 0)]) fun G=>b6 (wp_seq (wp_seq (E8 G (v8 2 [8,9,10,4,5,6] (j7.lend (aQ2 ((C0 true 5 q 0 p.body).fst) ((C0 true 5 q 0 p.body).snd) p.body q.fst q.snd p.body) [.row 3,.row 3,.tree,.row 3,.row 3,.tree])) (aj0 [(5,.ptr 11 0),(22,bA (decide ((C0 true 5 q 0 p.body).fst=q.fst)&&(decide ((C0 true 5 q 0 p.body).snd=q.snd)&&A1 p.body p.body)))]) fun G=>b6 ?_)))))));cases h1:(decide ((C0 true (5:Nat) q (0:Int) p.body).fst=q.fst)&&(decide ((C0 true (5:Nat) q (0:Int) p.body).snd=q.snd)&&A1 p.body p.body))
   · have q1:(¬((C0 true 5 q 0 p.body).fst=q.fst))\/((¬((C0 true 5 q 0 p.body).snd=q.snd))\/((A1 p.body p.body)=false)):=Or.imp (fun hq=>of_decide_eq_false hq) (fun hq=>Or.imp (fun hq=>of_decide_eq_false hq) (fun hq=>(hq)) (Bool.and_eq_false_iff.1 hq)) (Bool.and_eq_false_iff.1 h1);refine rF G _ h1 (wp_skip (b6 (j9 G f8 [0,1,2,3,7,8,9,10] (Y4 p [aA8,.box [.ref 5,.ref 6,.tref 7],.row 3 (D.ints (C0 true 5 q 0 p.body).fst),.row 3 (D.ints (C0 true 5 q 0 p.body).snd),.tree (D.stmts p.body)]) [(2,.ptr 3 0),(3,bA false),(4,.ptr 4 0)] fun G=>n4 (b6 ?_))));exact R2 G (C0 true 5 q 0 p.body) (an6 ab) (bG4 ab ab (bd9 ab)) [0,1,2,3,5,6,7,4]
   have q1:((C0 true 5 q 0 p.body).fst=q.fst)/\(((C0 true 5 q 0 p.body).snd=q.snd)/\((A1 p.body p.body)=true)):=And.imp (fun hq=>of_decide_eq_true hq) (fun hq=>And.imp (fun hq=>of_decide_eq_true hq) (fun hq=>(hq)) (Bool.and_eq_true_iff.1 hq)) (Bool.and_eq_true_iff.1 h1);refine rT G _ h1 (wp_exit (t7 ?_));refine bT0 aj ?_;refine t7 (t5 (b6 (wp_seq (j9 G (v8 1 [4,5,6] (j7.lend (Z9 q.fst q.snd p.body al) [.row 3,.row 3,.tree])) (rg 8) (Y4 p (aA8::(as9 p q [aG9]))) (aj0 [(6,iA (X4 (i7.mk q.fst q.snd p.body) false).fst)]) fun G=>b6 (wp_seq (wp_seq (l6 G f8 [(30,bA ((X4 (i7.mk q.fst q.snd p.body) false).fst !=0))] fun G=>b6 (rcN G (fun h2 q2=>?_) fun h2 q2=>?_))))))))
   · refine wp_skip (b6 (wp_seq (j9 G f8 (rg 7) (Y4 p (aG9::(as9 p q []))) [(2,.ptr 3 0),(3,bA true)] fun G=>b6 (wp_ret ?_))));exact Y0 (.tup [.agg [.ref 4,.ref 5,.tref 6],bA true]) G [0,1,2,4,5,6] (by have e1:(okI p:Bool)=(true):=(b94 ab ab (ae2 ab) ab);(first|rw[e1]|simp only[e1])<;>rfl) (by show _=mR [0,1,2,4,5,6] (aQ9 p);unfold aQ9;rw[bQ5 ab ab (ae2 ab) (b94 ab ab (ae2 ab) ab)]<;>rfl)
   refine wp_seq (E8 G f8 (aj0 []) fun G=>b6 (wp_ret (l0 ?_)));obtain⟨ρ,G⟩:=G.nil 8 3 (.ints []) 1 (Y4 p (.box [.ref 8,.v (.slice none 0 0),.v (.slice none 0 0)]::(as9 p q [.box [.ref 4,.ref 5,.tref 6]]))) (aj0 []);obtain⟨ρ,G⟩:=G.nil 9 3 (.ints []) 1 (Y4 p (.box [.ref 8,.ref 9,.v (.slice none 0 0)]::(as9 p q [.box [.ref 4,.ref 5,.tref 6],.row 3 (D.ints [])]))) (aj0 []);obtain⟨ρ,G⟩:=G.nilT 10 (.stmts []) (Y4 p (.box [.ref 8,.ref 9,.tref 10]::(as9 p q [.box [.ref 4,.ref 5,.tref 6],.row 3 (D.ints []),.row 3 (D.ints [])]))) (aj0 []);exact Y0 (.tup [.agg [.ref 8,.ref 9,.tref 10],bA false]) G [0,1,2,8,9,10] (by have e1:(okI p:Bool)=(false):=(b95 ab ab (ae2 ab) ab);(first|rw[e1]|simp only[e1])<;>rfl) (by show _=mR [0,1,2,8,9,10] (aQ9 p);unfold aQ9;rw[bp7 (b95 ab ab (ae2 ab) ab)]<;>rfl)
  have q0:(l9 p)=false:=(Eq.mp (co9 _) h0);refine rT G _ h0 (wp_seq (E8 G f8 [(1,.ptr 3 0),(2,.ptr 4 0),(3,bA false)] fun G=>b6 (wp_ret (l0 ?_))));obtain⟨ρ,G⟩:=G.nil 5 3 (.ints []) 1 (Y4 p [.box (pL 0),.box [.ref 5,.v (.slice none 0 0),.v (.slice none 0 0)]]) [(1,.ptr 3 0),(2,.ptr 4 0),(3,bA false)];obtain⟨ρ,G⟩:=G.nil 6 3 (.ints []) 1 (Y4 p [.box (pL 0),.box [.ref 5,.ref 6,.v (.slice none 0 0)],.row 3 (D.ints [])]) [(1,.ptr 3 0),(2,.ptr 4 0),(3,bA false)];obtain⟨ρ,G⟩:=G.nilT 7 (.stmts []) (Y4 p [.box (pL 0),.box [.ref 5,.ref 6,.tref 7],.row 3 (D.ints []),.row 3 (D.ints [])]) [(1,.ptr 3 0),(2,.ptr 4 0),(3,bA false)];exact Y0 (.tup [.agg [.ref 5,.ref 6,.tref 7],bA false]) G [0,1,2,5,6,7] (by have e1:(okI p:Bool)=(false):=(bD8 ab);(first|rw[e1]|simp only[e1])<;>rfl) (by show _=mR [0,1,2,5,6,7] (aQ9 p);unfold aQ9;rw[bp7 (bD8 ab)]<;>rfl)
abbrev nvL:List Int:=[3]++([4]++([2]++([5]++[])))
abbrev viL:List Int:=[0]++([1]++([0]++([1]++([2]++([3]++[])))))
abbrev naL:List Int:=[1]++([2]++([0]++([1]++[])))
abbrev aiL:List Int:=[0]++([1]++([0]++([1]++([3]++[]))))
abbrev nbL:List Int:=[2]++([3]++([1]++([4]++[])))
def nsD(b:List UInt8)(l:List Int)(n:Nat)(k:Int):List Int:=(co4 n).map fun(i:Nat)=>nm b (k+(i:Int)) l
theorem an3(b:List UInt8)(l:List Int)(n:Nat)(k:Int):(nsD b l n k).length=n:=by simp[nsD]
theorem bE2(b:List UInt8)(l:List Int)(n:Nat)(k:Int):nsD b l (n+1) k=nsD b l n k++[nm b (k+(n:Int)) l]:=by
 unfold nsD;rw[List.range_succ,List.map_append];rfl
def L0(b:List UInt8)(k:Int):Int:=k+1+nm b k nvL
def kp2(b:List UInt8)(k:Int):Int:=L0 b k+1+nm b (L0 b k) naL
def vsD(b:List UInt8)(k:Int):List Int:=nsD b viL (nm b k nvL).toNat (k+1)
def asD(b:List UInt8)(k:Int):List Int:=nsD b aiL (nm b (L0 b k) naL).toNat (L0 b k+1)
def Q6(b:List UInt8)(k:Int):List c5×Int:=J4 (E0 b (vsD b k).length (asD b k).length 3) (nm b (kp2 b k) nbL).toNat (kp2 b k+1)
def rwD(b:List UInt8)(k:Int):i7:=⟨vsD b k,asD b k,(Q6 b k).1⟩
def fbP:i7:=⟨[0,1],[],[⟨1,1,noE,⟨2,0,[]⟩,0,[],[]⟩]⟩
def N7(b:List UInt8)(k:Int):i7:=if l9 (rwD b k)=true then rwD b k else fbP
section
variable(b:List UInt8){k:Int}
theorem b02(hk:0<=k)(hk2:k<=1000000000):0<=nm b k nvL/\nm b k nvL<=5:=aS8 b ao ao hk hk2
theorem b99(hk:0<=k)(hk2:k<=1000000000):0<=nm b k nbL/\nm b k nbL<=4:=aS8 b ao ao hk hk2
theorem b05(hk:0<=k)(hk2:k<=1000000000):0<=nm b k naL/\nm b k naL<=2:=aS8 b ao ao hk hk2
theorem bF4(hk:0<=k)(hk2:k<=10000000):k+1<=L0 b k/\L0 b k<=k+6:=by
 have:=b02 b hk al;unfold L0;omega
theorem bp4(hk:0<=k)(hk2:k<=10000000):k+2<=kp2 b k/\kp2 b k<=k+9:=by
 have h1:=bF4 b hk hk2
 have:=b05 b (k:=L0 b k) al al;unfold kp2;omega
theorem cS3:cS 3=34170/\cS 2=8442:=ak
theorem cl4(nv na:Nat):Drw (E0 b nv na 3) 34170:=fun j h1 h2=>by
 have e:=cS3.1
 have h3:=a37 b nv na 3 j h1 al
 have h4:=bd4 b nv na 3 j h1 al
 omega
theorem br7(hk:0<=k)(hk2:k<=10000000):kp2 b k<=(Q6 b k).2/\(Q6 b k).2<=k+150000/\j5 (Q6 b k).1<=150000:=by
 have h1:=bp4 b hk hk2
 have h2:=b99 b (k:=kp2 b k) al al
 have h3:=a08 (f:=E0 b (vsD b k).length (asD b k).length 3) al (cl4 b _ _) (nm b (kp2 b k) nbL).toNat (kp2 b k+1) al al
 unfold Q6
 omega
theorem by7(hk:0<=k)(hk2:k<=10000000):(vsD b k).length<=5:=by
 have:=b02 b hk al;unfold vsD;rw[an3];omega
theorem bK9(hk:0<=k)(hk2:k<=10000000):(asD b k).length<=2:=by
 have h1:=bF4 b hk hk2
 have:=b05 b (k:=L0 b k) al al;unfold asD;rw[an3];omega
theorem b23:l9 fbP=true:=by decide+kernel
theorem bD1(k:Int):l9 (N7 b k)=true:=by
 unfold N7;split
 ·assumption
 exact b23
theorem bD0(hk:0<=k)(hk2:k<=10000000):(N7 b k).size<=160000:=by
 have h1:=br7 b hk hk2
 have h2:=by7 b hk hk2
 have h3:=bK9 b hk hk2
 unfold N7;split
 ·show(vsD b k).length+(asD b k).length+j5 (Q6 b k).1<=160000
  omega
 decide
end
def V5(b:List UInt8)(k:Int):i7:=if pk b (Q6 b k).2 4=0 then N7 b k else if okI (N7 b k)=true then ai5 (N7 b k)else N7 b k
theorem bQ4{p:i7}:(ai5 p).size<=p.size:=by
 unfold ai5
 split
 ·have h:=(aM1 (p:=p) (by rename_i h;unfold okI at h;simp at h;exact h.1)).1
  show(ay9 p).1.length+(ay9 p).2.length+j5 p.body<=_
  unfold i7.size
  have h1:(ay9 p).1.length=p.vars.length:=h.1
  have h2:(ay9 p).2.length=p.arrays.length:=h.2
  omega
 simp[i7.size,j5]
theorem bc7(b:List UInt8){k:Int}(hk:0<=k)(hk2:k<=10000000):(V5 b k).size<=160000:=by
 have h1:=bD0 b hk hk2
 have h2:=bQ4 (p:=N7 b k)
 unfold V5
 (repeat' split)<;>omega
def bsD(c:List UInt8):List UInt8:=c.take 2000
abbrev opL:List Int:=[1]++([2]++([3]++([6]++([2]++([7]++([9]++([4]++([5]++([11]++([8]++([12]++[])))))))))))
abbrev vaL:List Int:=[0]++([1]++([2]++([3]++([255]++([128]++([7]++([4]++([100]++[]))))))))
abbrev lnL:List Int:=[6]++([8]++([4]++([10]++([1]++([12]++[])))))
def opD(b:List UInt8)(j:Int)(na:Nat):Int:=if na=0/\(nm b j opL=4\/nm b j opL=5)then 2 else nm b j opL
def ptD(b:List UInt8)(j:Int)(nv na:Nat)(at0 n:Int)(kd:UInt8):Int:=
 if kd=114 then pk b j 3 else if kd=99 then nm b j vaL else if kd=118 then pk b j nv else if kd=97 then pk b j na else if kd=111 then 4+pk b j 7 else at0+1+pk b j (n-at0-1)
def psD(b:List UInt8)(j:Int)(nv na:Nat)(at0 n:Int)(ks:List UInt8)(k:Nat):List Int:=(co4 4).map fun i=>if i<k then ptD b (j+i) nv na at0 n (ks.getD i 0)else 0
theorem bn9(b:List UInt8)(j:Int)(nv na:Nat)(at0 n:Int)(ks:List UInt8)(k:Nat):(psD b j nv na at0 n ks k).length=4:=by simp[psD]
theorem bC5(b:List UInt8)(j:Int)(nv na:Nat)(at0 n:Int)(ks:List UInt8){k:Nat}(hk:k<4):psD b j nv na at0 n ks (k+1)=(psD b j nv na at0 n ks k).set k (ptD b (j+k) nv na at0 n (ks.getD k 0)):=by
 apply List.ext_getElem (by simp[bn9])
 intro i h1 h2
 rw[List.getElem_set]
 simp only[psD,List.getElem_map,List.getElem_range]
 by_cases e:k=i
 ·subst e;simp
 rw[if_neg e]
 have:(i<k+1)↔(i<k):=al
 simp only[this]
def rnD(b:List UInt8)(j:Int)(nv na:Nat)(at0 n:Int):d7×Int:=
 (⟨opD b j na,(psD b (j+1) nv na at0 n (m7 (opD b j na)) (m7 (opD b j na)).length).getD 0 0,(psD b (j+1) nv na at0 n (m7 (opD b j na)) (m7 (opD b j na)).length).getD 1 0,
  (psD b (j+1) nv na at0 n (m7 (opD b j na)) (m7 (opD b j na)).length).getD 2 0,(psD b (j+1) nv na at0 n (m7 (opD b j na)) (m7 (opD b j na)).length).getD 3 0⟩,j+1+(m7 (opD b j na)).length)
theorem ch3(b:List UInt8)(j:Int)(nv na:Nat)(at0 n:Int):j+1<=(rnD b j nv na at0 n).2/\(rnD b j nv na at0 n).2<=j+5:=by
 have:=as4 (opD b j na)
 unfold rnD
 simp only
 omega
def rsD(b:List UInt8)(j:Int)(nv na:Nat)(n:Int):Nat->List d7×Int
 |0=>([],j)
 |k+1=>((rsD b j nv na n k).1++[(rnD b (rsD b j nv na n k).2 nv na k n).1],(rnD b (rsD b j nv na n k).2 nv na k n).2)
theorem bY5(b:List UInt8)(j:Int)(nv na:Nat)(n:Int):∀k:Nat,(rsD b j nv na n k).1.length=k/\j<=(rsD b j nv na n k).2/\(rsD b j nv na n k).2<=j+5*k
 |0=>by simp[rsD]
 | k + 1 => by
  obtain⟨h1,h2,h3⟩:=bY5 b j nv na n k
  have h4:=ch3 b (rsD b j nv na n k).2 nv na k n
  have e2:(rsD b j nv na n (k+1)).2=(rnD b (rsD b j nv na n k).2 nv na k n).2:=rfl
  have e1:(rsD b j nv na n (k+1)).1.length=k+1:=by
   show((rsD b j nv na n k).1++[(rnD b (rsD b j nv na n k).2 nv na k n).1]).length=k+1
   rw[cn3,h1];rfl
  rw[e1,e2]
  generalize (rnD b (rsD b j nv na n k).2 nv na k n).2=x at h4 ⊢
  generalize (rsD b j nv na n k).2=y at*
  refine⟨rfl,?_,?_⟩<;>omega
def clD(b:List UInt8)(j:Int)(nv na:Nat):List d7×Int:=
 (fun(n:Int)=>
  (fun(r:List d7×Int)=>
   if n>3 then
    (if pk b r.2 4=0 then(((r.1++[(⟨13,0,0,0,0⟩:d7)]).set 0 ⟨1,5,1+pk b (r.2+1) 3,0,0⟩).set (n-2).toNat ⟨10,5,1,0,0⟩,r.2+2)else(r.1++[⟨13,0,0,0,0⟩],r.2+1))
   else(r.1++[⟨13,0,0,0,0⟩],r.2)) (rsD b (j+1) nv na n (n-1).toNat)) (nm b j lnL)
theorem b08(b:List UInt8){j:Int}(hj:0<=j)(hj2:j<=1000000000):1<=nm b j lnL/\nm b j lnL<=12:=by
 have h:=ay7 b hj hj2 (l:=lnL) (List.cons_ne_nil _ _)
 generalize nm b j lnL=x at h ⊢
 simp only[lnL,List.cons_append,List.nil_append,cq9,List.not_mem_nil,or_false]at h
 omega
theorem cl5(b:List UInt8){j:Int}(nv na:Nat)(hj:0<=j)(hj2:j<=1000000000):(clD b j nv na).1.length=(nm b j lnL).toNat/\j+1<=(clD b j nv na).2/\(clD b j nv na).2<=j+70:=by
 have hn:=b08 b hj hj2
 obtain⟨h1,h2,h3⟩:=bY5 b (j+1) nv na (nm b j lnL) (nm b j lnL-1).toNat
 unfold clD
 simp only
 split
 ·split
  ·simp only[cp3,cn3,cn6,co1,h1];omega
  simp only[cn3,cn6,co1,h1];omega
 simp only[cn3,cn6,co1,h1];omega
abbrev ca4:List Int:=[0]++([14]++([1]++([12]++[])))
abbrev ca3:List Int:=[-1]++([14]++([0]++([400]++[])))
abbrev ca2:List Int:=[1]++([-1]++[])
def bY8(l:List d7)(i:Nat)(n:Int):List d7:=l.set i ⟨n,(l.getD i cm7).a,(l.getD i cm7).b,(l.getD i cm7).c,(l.getD i cm7).d⟩
def bC4(l:List d7)(i:Nat)(n:Int):List d7:=l.set i ⟨(l.getD i cm7).op,n,(l.getD i cm7).b,(l.getD i cm7).c,(l.getD i cm7).d⟩
def bY9(l:List d7)(i:Nat)(n:Int):List d7:=l.set i ⟨(l.getD i cm7).op,(l.getD i cm7).a,(l.getD i cm7).b,(l.getD i cm7).c,n⟩
def muD(b:List UInt8)(j:Int)(c:d9):d9×Int:=
 if c.list.length=0 then(c,j)
 else if pk b j 60=0 then(⟨c.vars,c.arrays,bY8 c.list 0 (nm b (j+1) ca4)⟩,j+2)
 else if pk b j 60=1 then(⟨c.vars,c.arrays,bC4 c.list (pk b (j+1) c.list.length).toNat (nm b (j+2) ca3)⟩,j+3)
 else if pk b j 60=2 then(⟨c.vars,c.arrays,c.list.set (c.list.length-1) ⟨12,0,0,0,0⟩⟩,j+1)
 else if pk b j 60=3 then(⟨c.vars,c.arrays,c.list.set (c.list.length-1) ⟨8,0,0,0,0⟩⟩,j+1)
 else if pk b j 60=4 then(⟨c.vars,c.arrays,bY9 c.list (pk b (j+1) c.list.length).toNat (nm b (j+2) ca2)⟩,j+3)
 else if pk b j 60=5 then(⟨[],c.arrays,c.list⟩,j+1)
 else(c,j+1)
theorem ck0(b:List UInt8)(j:Int)(c:d9):(muD b j c).1.list.length=c.list.length/\(muD b j c).1.vars.length<=c.vars.length/\(muD b j c).1.arrays.length=c.arrays.length/\j<=(muD b j c).2/\(muD b j c).2<=j+3:=by
 have key:∀(x:d9) (q:Int),x.list.length=c.list.length->x.vars.length<=c.vars.length->x.arrays.length=c.arrays.length->j<=q->q<=j+3->((x,q).1.list.length=c.list.length/\(x,q).1.vars.length<=c.vars.length/\(x,q).1.arrays.length=c.arrays.length/\j<=(x,q).2/\(x,q).2<=j+3):=fun x q h1 h2 h3 h4 h5=>⟨h1,h2,h3,h4,h5⟩
 unfold muD
 repeat' split
 all_goals (refine key _ _ ?_ ?_ ?_ al al<;>simp[bY8,bC4,bY9])
theorem b87{b:List UInt8}{j n:Int}(h:n<1):pk b j n=0:=by unfold pk;rw[if_pos (.inl h)]
theorem cj1{b:List UInt8}{j n:Int}(h:(b.length:Int)=0):pk b j n=0:=by unfold pk;rw[if_pos (.inr al)]
theorem cj0{b:List UInt8}{j n:Int}(h:¬n<1)(h1:¬(b.length:Int)=0)(h2:j+1-1<b.length):pk b j n=((b.getD (j+1-1).toNat 0).toNat:Int).tmod n:=by
 unfold pk;rw[if_neg al,if_pos al,Int.add_sub_cancel]
theorem ci9{b:List UInt8}{j n:Int}(h:¬n<1)(h1:¬(b.length:Int)=0)(h2:¬j+1-1<b.length):pk b j n=(bc5 (pkX b (j+1-1)) ((pkX b (j+1-1)).tdiv 64)).tmod n:=by
 unfold pk;rw[if_neg al,if_neg al,Int.add_sub_cancel]
theorem bu4{x:Int}{n:Nat}(hx:0<=x)(hn:¬(n:Int)=0):0<=x.tmod n/\x.tmod n<n/\(x.tmod n).toNat<n:=by
 have:=bc9 (x:=x) (n:=n) hx al;omega
theorem C9(b:List UInt8)(j n:Int)(r0:0<=j)(r1:j<=1000000000):j7.ok Tryz.prog ⟨69,[.ptr 0 0,iA n],[.box [.ref 1,iA j],dY b],[.box [.ref 1,iA (j+1)],dY b],iA (pk b j n)⟩:=by
  refine H9 99 Tryz.func69 [.box [.ref 1,iA j],dY b] [(0,.ptr 0 0),(1,iA n)] fun G=>?_;have hu1:=a31 (b.getD ((j+1-1).tmod b.length).toNat 0);have hu2:=a31 (b.getD (((j+1-1)*7+3).tmod b.length).toNat 0);refine wp_seq (l6 G f8 [(4,iA 0)] fun G=>b6 (wp_seq (Z5 G f8 [0,1] [.box [.ref 1,iA (j+1)],dY b] [(0,.ptr 0 0),(1,iA n),(4,iA 0)] [wO (j+1)] (o1 al) fun G=>b6 (wp_seq (wp_seq ?_)))));cases h0:(decide (n<1))
  ·
   have q0:=dFf h0;refine l6 G (K0 (fc h0 fz) (us [(3,8,0),(1009,1009,0)])) [(24,bA ((b.length:Int)==0))] fun G=>b6 (Q7 G (fun h1 q1=>?_) fun h1 q1=>?_)
   ·
    refine wp_skip (b6 (wp_seq (M8 G f8 [(5,iA (j+1-1))] [wO (j+1-1)] (o1 al) fun G=>b6 (wp_seq (wp_seq (l6 G f8 [(36,bA (decide (j+1-1<(b.length:Int))))] fun G=>b6 (rcD G (fun h2 q2=>?_) fun h2 q2=>?_)))))))
    ·
     refine wp_skip (b6 (wp_seq (ai3 G f8 [0,1,3,7,0,0,32,96,224,480,1008,2047,4095,8191,16383,0,32768,98304,229376,0,524288,1572864,0,4194304,12582912,29360128,62914560,133693440,268402688,536838144,1073709056,2147450880,4294967295,0,8589934592,34359738367,0,0,137438953472,412316860416,962072674304,2061584302080,4329327034368,8727373545472,17592186044415,35184372088831] [(6,iA (((b.getD ((j+1-1).tmod (b.length:Int)).toNat 0).toNat:Int)*131+((b.getD (((j+1-1)*7+3).tmod (b.length:Int)).toNat 0).toNat:Int)*1117+(j+1-1)*29+(j+1-1).tdiv (b.length:Int)*53))] [(b.length:Int)≠0,(0:Int)<=(j+1-1).tmod (b.length:Int),(j+1-1).tmod (b.length:Int)<b.length,((j+1-1).tmod (b.length:Int)).toNat<b.length,IntKind.i64.wrap ((b.getD ((j+1-1).tmod (b.length:Int)).toNat (0:UInt8)).toNat:Int)=((b.getD ((j+1-1).tmod (b.length:Int)).toNat (0:UInt8)).toNat:Int),wO (((b.getD ((j+1-1).tmod (b.length:Int)).toNat (0:UInt8)).toNat:Int)*131),wO ((j+1-1)*7),wO ((j+1-1)*7+3),(b.length:Int)≠0,(0:Int)<=((j+1-1)*7+3).tmod (b.length:Int),((j+1-1)*7+3).tmod (b.length:Int)<b.length,(((j+1-1)*7+3).tmod (b.length:Int)).toNat<b.length,IntKind.i64.wrap ((b.getD (((j+1-1)*7+3).tmod (b.length:Int)).toNat (0:UInt8)).toNat:Int)=((b.getD (((j+1-1)*7+3).tmod (b.length:Int)).toNat (0:UInt8)).toNat:Int),wO (((b.getD (((j+1-1)*7+3).tmod (b.length:Int)).toNat (0:UInt8)).toNat:Int)*1117),wO (((b.getD ((j+1-1).tmod (b.length:Int)).toNat (0:UInt8)).toNat:Int)*131+((b.getD (((j+1-1)*7+3).tmod (b.length:Int)).toNat (0:UInt8)).toNat:Int)*1117),wO ((j+1-1)*29),wO (((b.getD ((j+1-1).tmod (b.length:Int)).toNat (0:UInt8)).toNat:Int)*131+((b.getD (((j+1-1)*7+3).tmod (b.length:Int)).toNat (0:UInt8)).toNat:Int)*1117+(j+1-1)*29),(b.length:Int)≠0,wO ((j+1-1).tdiv (b.length:Int)),wO ((j+1-1).tdiv (b.length:Int)*53),wO (((b.getD ((j+1-1).tmod (b.length:Int)).toNat (0:UInt8)).toNat:Int)*131+((b.getD (((j+1-1)*7+3).tmod (b.length:Int)).toNat (0:UInt8)).toNat:Int)*1117+(j+1-1)*29+(j+1-1).tdiv (b.length:Int)*53)] ⟨ai,((bu4 al al).1),((bu4 al al).2.1),((bu4 al al).2.2),(w64 al al),(oW al),(oW al),(oW al),ai,((bu4 al al).1),((bu4 al al).2.1),((bu4 al al).2.2),(w64 al al),(oW al),(oW al),(oW al),(oW al),ai,(by have:=a60 (b:=b) (k:=j+1-1) al al al;exact w64 (by unfold pkX at this;omega) (by unfold pkX at this;omega)),(by have:=a60 (b:=b) (k:=j+1-1) al al al;exact w64 (by unfold pkX at this;omega) (by unfold pkX at this;omega)),(by have:=a60 (b:=b) (k:=j+1-1) al al al;exact w64 (by unfold pkX at this;omega) (by unfold pkX at this;omega)),co8⟩ fun G=>?_)))
     refine b6 (wp_seq (M8 G f8 [(6,iA (bc5 (((b.getD ((j+1-1).tmod (b.length:Int)).toNat 0).toNat:Int)*131+((b.getD (((j+1-1)*7+3).tmod (b.length:Int)).toNat 0).toNat:Int)*1117+(j+1-1)*29+(j+1-1).tdiv (b.length:Int)*53) ((((b.getD ((j+1-1).tmod (b.length:Int)).toNat 0).toNat:Int)*131+((b.getD (((j+1-1)*7+3).tmod (b.length:Int)).toNat 0).toNat:Int)*1117+(j+1-1)*29+(j+1-1).tdiv (b.length:Int)*53).tdiv 64)))] [(64:Int)≠0,wO ((((b.getD ((j+1-1).tmod (b.length:Int)).toNat (0:UInt8)).toNat:Int)*131+((b.getD (((j+1-1)*7+3).tmod (b.length:Int)).toNat (0:UInt8)).toNat:Int)*1117+(j+1-1)*29+(j+1-1).tdiv (b.length:Int)*53).tdiv (64:Int))] ⟨al,(by have:=bU7 (b:=b) (k:=j+1-1) al al al;exact w64 (by unfold pkX at this;omega) (by unfold pkX at this;omega)),co8⟩ fun G=>b6 (wp_seq (M8 G f8 [(4,iA ((bc5 (((b.getD ((j+1-1).tmod (b.length:Int)).toNat 0).toNat:Int)*131+((b.getD (((j+1-1)*7+3).tmod (b.length:Int)).toNat 0).toNat:Int)*1117+(j+1-1)*29+(j+1-1).tdiv (b.length:Int)*53) ((((b.getD ((j+1-1).tmod (b.length:Int)).toNat 0).toNat:Int)*131+((b.getD (((j+1-1)*7+3).tmod (b.length:Int)).toNat 0).toNat:Int)*1117+(j+1-1)*29+(j+1-1).tdiv (b.length:Int)*53).tdiv 64)).tmod n))] [n≠0] ⟨al,co8⟩ fun G=>b6 (wp_ret ?_)))));exact rxI ((bc5 (((b.getD ((j+1-1).tmod (b.length:Int)).toNat 0).toNat:Int)*131+((b.getD (((j+1-1)*7+3).tmod (b.length:Int)).toNat 0).toNat:Int)*1117+(j+1-1)*29+(j+1-1).tdiv (b.length:Int)*53) ((((b.getD ((j+1-1).tmod (b.length:Int)).toNat 0).toNat:Int)*131+((b.getD (((j+1-1)*7+3).tmod (b.length:Int)).toNat 0).toNat:Int)*1117+(j+1-1)*29+(j+1-1).tdiv (b.length:Int)*53).tdiv 64)).tmod n) G [0,1] (ci9 al al al)
    refine wp_seq (M8 G f8 [(4,iA (((b.getD (j+1-1).toNat 0).toNat:Int).tmod n))] (iX (j+1-1) ((j+1-1).toNat) b.length ((IntKind.i64.wrap ((b.getD (j+1-1).toNat (0:UInt8)).toNat:Int)=((b.getD (j+1-1).toNat (0:UInt8)).toNat:Int))::((n≠0)::[]))) (iK al ⟨(by have:=a31 (b.getD (j+1-1).toNat 0);exact w64 al al),⟨al,co8⟩⟩) fun G=>b6 (wp_ret (l0 ?_)));exact rxI (((b.getD (j+1-1).toNat 0).toNat:Int).tmod n) G [0,1] (cj0 al al al)
   refine wp_seq (l6 G f8 [] fun G=>b6 (wp_ret (l0 ?_)));exact rxI 0 G [0,1] (cj1 al)
  have q0:=dTt h0;refine l6 G (K0 (fc h0 fz) (us [(3,8,0),(1009,1009,0)])) [(24,bA true)] fun G=>b6 (rT G true aj (wp_seq (l6 G f8 [] fun G=>b6 (wp_ret (l0 ?_)))));exact rxI 0 G [0,1] (b87 al)
theorem S5(b:List UInt8)(j:Int)(l:List Int)(hl:l≠[])(r0:0<=j)(r1:j<=1000000000):j7.ok Tryz.prog ⟨109,[.ptr 0 0,.ref 2],[.box [.ref 1,iA j],dY b,dI l],[.box [.ref 1,iA (j+1)],dY b,dI l],iA (nm b j l)⟩:=by
 refine H9 12 Tryz.func109 [.box [.ref 1,iA j],dY b,dI l] [(0,.ptr 0 0),(1,.ref 2)] fun G=>?_;refine wp_seq (l6 G f8 [(4,iA 0)] fun G=>b6 (wp_seq (Z5 G (v8 4 [0,1] (C9 b j ((l.length:Int)) ai ai)) [0,1,2] [.box [.ref 1,iA (j+1)],dY b,dI l] [(4,iA (l.getD (pk b j (l.length:Int)).toNat 0))] [(0:Int)<=pk b j (l.length:Int),pk b j (l.length:Int)<l.length,(pk b j (l.length:Int)).toNat<l.length] ⟨((bo6 b r0 r1 hl).1),((bo6 b r0 r1 hl).2.1),((bo6 b r0 r1 hl).2.2),co8⟩ fun G=>b6 (wp_ret ?_))));exact O7 G [0,1,2]
theorem bj9(c:List UInt8)(hc:c.length<=2000):j7.ok Tryz.prog ⟨26,[.ref 0],[dY c],[dY c,.box [.ref 0,iA 0]],.ptr 1 0⟩:=by
 refine H9 11 Tryz.func26 [dY c] [(0,.ref 0)] fun G=>?_;refine wp_seq (l6 G f8 [(2,.v (.pointer none))] fun G=>b6 (wp_seq (wp_seq (E8 G f8 [(0,.ref 0),(2,.v (.pointer none)),(5,bA (decide ((c.length:Int)>2000)))] fun G=>b6 ?_))));cases h0:(decide ((c.length:Int)>2000))
 ·have q0:=dFf h0;refine rF G _ h0 (wp_skip (b6 (wp_seq (j9 G f8 [0,17] [dY c,.box [.ref 0,iA 0]] [(2,.ptr 1 0)] fun G=>b6 (wp_ret ?_)))));exact O7 G [0,1]
 have q0:=dTt h0;exact False.elim al
theorem bj8(c:List UInt8)(hc:2000<c.length):j7.ok Tryz.prog ⟨26,[.ref 0],[dY c],[dY c,.box [.ref 2,iA 0],dY ((c.take 2000).drop 0)],.ptr 1 0⟩:=by
 refine H9 11 Tryz.func26 [dY c] [(0,.ref 0)] fun G=>?_;refine wp_seq (l6 G f8 [(2,.v (.pointer none))] fun G=>b6 (wp_seq (wp_seq (E8 G f8 [(0,.ref 0),(2,.v (.pointer none)),(5,bA (decide ((c.length:Int)>2000)))] fun G=>b6 ?_))));cases h0:(decide ((c.length:Int)>2000))
 ·have q0:=dFf h0;exact False.elim al
 have q0:=dTt h0;refine rT G _ h0 (Z5 G f8 [0,9] [dY c,dY (List.drop 0 (cn7 (Int.toNat 2000) c))] [(0,.ref 1),(2,.v (.pointer none))] [(0:Int)<=2000,(2000:Int)<=c.length] ⟨al,al,co8⟩ fun G=>b6 (wp_seq (j9 G f8 [0,1,18] [dY c,dY (List.drop 0 (cn7 (Int.toNat 2000) c)),.box [.ref 1,iA 0]] [(2,.ptr 2 0)] fun G=>b6 (wp_ret ?_))));exact O7 G [0,2,1]
abbrev dwS(b:List UInt8)(j:Int)(vs ars:List Int)(bd:List c5):List It:=[.box [.ref 1,iA j],dY b,dI vs,dI ars,dT bd]
abbrev exO(e:c6):List It:=[.tree (.exprs e.kids)]
abbrev exA(e:c6)(r:Nat):AV:=.agg [iA e.kind,iA e.value,.tref r]
theorem cf3{b:List UInt8}{nv j:Int}(h:pk b j 3=0):r7 b nv j=⟨1,nm b (j+1) atL,[]⟩:=if_pos h
theorem cf2{b:List UInt8}{nv j:Int}(h:¬pk b j 3=0):r7 b nv j=⟨2,pk b (j+1) nv,[]⟩:=if_neg h
theorem aA0(b:List UInt8)(j:Int)(vs ars:List Int)(bd:List c5)(r0:0<=j)(r1:j<=900000000):j7.ok Tryz.prog ⟨188,[.ptr 0 0,pA 2],dwS b j vs ars bd,dwS b (j+2) vs ars bd++exO (r7 b vs.length j),exA (r7 b vs.length j) 5⟩:=by
 refine H9 18 Tryz.func188 [.box [.ref 1,iA j],dY b,dI vs,dI ars,dT bd] [(0,.ptr 0 0),(1,pA 2)] fun G=>?_;refine wp_seq (j9 G f8 [0,1,2,3,4,5,13] [.box [.ref 1,iA j],dY b,dI vs,dI ars,dT bd,.box (pL 2),.box [iA 0,iA 0,.v (.slice none 0 0)]] [(0,.ptr 0 0),(3,.ptr 5 0),(4,.ptr 6 0)] fun G=>b6 (wp_seq (wp_seq (j9 G (v8 1 [0,1] (C9 b j 3 ai al)) (rg 7) [.box [.ref 1,iA (j+1)],dY b,dI vs,dI ars,dT bd,.box (pL 2),.box [iA 0,iA 0,.v (.slice none 0 0)]] [(0,.ptr 0 0),(3,.ptr 5 0),(4,.ptr 6 0),(7,bA (pk b j 3==0))] fun G=>b6 (Q7 G (fun h0 q0=>?_) fun h0 q0=>?_)))))
 ·refine wp_skip (b6 (wp_seq (j9 G (v8 4 [0,1] (C9 b (j+1) ((vs.length:Int)) al al)) [0,1,2,3,4,6] [.box [.ref 1,iA (j+1+1)],dY b,dI vs,dI ars,dT bd,.box [iA 2,iA (pk b (j+1) (vs.length:Int)),.v (.slice none 0 0)]] [(4,.ptr 5 0)] fun G=>b6 (wp_ret ?_))));obtain⟨ρ,G⟩:=G.nilT 6 (.exprs []) [.box [.ref 1,iA (j+1+1)],dY b,dI vs,dI ars,dT bd,.box [iA 2,iA (pk b (j+1) (vs.length:Int)),.tref 6]] [(4,.ptr 5 0)];exact Y0 (.agg [iA 2,iA (pk b (j+1) (vs.length:Int)),.tref 6]) G [0,1,2,3,4,6] (by show _=AV.ren (nth [0,1,2,3,4,6]) (.agg [iA (r7 b (vs.length:Int) j).kind,iA (r7 b (vs.length:Int) j).value,.tref 5]);rw[cf2 al]<;>rfl) (by show _=mR [0,1,2,3,4,6] [.box [.ref 1,iA (j+2)],dY b,dI vs,dI ars,dT bd,.tree (D.exprs (r7 b (vs.length:Int) j).kids)];have e1:(j+2:Int)=(j+1+1):=al;rw[e1,cf2 al]<;>rfl)
 refine wp_seq (j9 G (v8 2 [0,1,15] (j7.lend (S5 b (j+1) atL (by simp[h0]) al al) [.no,.no,.row 3])) (rg 7) [.box [.ref 1,iA (j+1+1)],dY b,dI vs,dI ars,dT bd,.box (pL 2),.box [iA 1,iA (nm b (j+1) atL),.v (.slice none 0 0)]] [(0,.ptr 0 0),(3,.ptr 5 0),(4,.ptr 6 0)] fun G=>b6 (wp_ret (l0 ?_)));obtain⟨ρ,G⟩:=G.nilT 7 (.exprs []) [.box [.ref 1,iA (j+1+1)],dY b,dI vs,dI ars,dT bd,.box (pL 2),.box [iA 1,iA (nm b (j+1) atL),.tref 7]] [(0,.ptr 0 0),(3,.ptr 5 0),(4,.ptr 6 0)];exact Y0 (.agg [iA 1,iA (nm b (j+1) atL),.tref 7]) G [0,1,2,3,4,7] (by show _=AV.ren (nth [0,1,2,3,4,7]) (.agg [iA (r7 b (vs.length:Int) j).kind,iA (r7 b (vs.length:Int) j).value,.tref 5]);rw[cf3 al]<;>rfl) (by show _=mR [0,1,2,3,4,7] [.box [.ref 1,iA (j+2)],dY b,dI vs,dI ars,dT bd,.tree (D.exprs (r7 b (vs.length:Int) j).kids)];have e1:(j+2:Int)=(j+1+1):=al;rw[e1,cf3 al]<;>rfl)
theorem bj6(vs ars:List Int)(bd:List c5)(e:c6):j7.ok Tryz.prog (T7 193 [pA 0,eA e 3] ([dI vs,dI ars,dT bd]++eS e) (bA (s7 vs.length ars.length e))):=L4 ⟨vs,ars,bd⟩ e
abbrev drC(b:List UInt8)(vs ars:List Int)(bd:List c5)(d:Nat)(j n:Int):j7:=⟨197,[.ptr 0 0,pA 2,iA n],dwS b j vs ars bd,dwS b (O8 b vs.length ars.length d j).2 vs ars bd++exO (O8 b vs.length ars.length d j).1,exA (O8 b vs.length ars.length d j).1 5⟩
section
variable{b:List UInt8}{nv na:Int}{d:Nat}{j:Int}
theorem cd3(h:d<2):O8 b nv na d j=(r7 b nv j,j+2):=by
 match d,h with
 |0,_=>rfl
 |1,_=>simp[O8]
theorem b24(h:0<d)(h1:pk b j 4=0):O8 b nv na (d+1) j=(r7 b nv (j+1),j+3):=by rw[O8,if_neg al,if_pos h1]
theorem bR3(h:0<d)(h1:¬pk b j 4=0)(h2:nm b (j+1) Q4=3)(h3:na=0):O8 b nv na (d+1) j=(r7 b nv (j+2),j+4):=by rw[O8,if_neg al,if_neg h1,if_pos h2,if_pos h3]
theorem bR2(h:0<d)(h1:¬pk b j 4=0)(h2:nm b (j+1) Q4=3)(h3:¬na=0):O8 b nv na (d+1) j=(⟨3,pk b (j+2) na,[r7 b nv (j+3)]⟩,j+5):=by rw[O8,if_neg al,if_neg h1,if_pos h2,if_neg h3]
abbrev drK(b:List UInt8)(nv na:Int)(d:Nat)(j:Int)(k:Nat):List c6×Int:=J4 (O8 b nv na d) k (j+2)
theorem cd2(h:0<d)(h1:¬pk b j 4=0)(h2:¬nm b (j+1) Q4=3){m:Int}(h3:0<=m)(h4:¬m>0):O8 b nv na (d+1) j=(⟨nm b (j+1) Q4,0,(drK b nv na d j (t6 (nm b (j+1) Q4)-m).toNat).1⟩,(drK b nv na d j (t6 (nm b (j+1) Q4)-m).toNat).2):=by
 have e:m=0:=al
 rw[e,Int.sub_zero,O8,if_neg al,if_neg h1,if_neg h2]
theorem bq7{x m:Int}(h3:m>0)(h4:m<=x):drK b nv na d j (x-(m-1)).toNat=((drK b nv na d j (x-m).toNat).1++[(O8 b nv na d (drK b nv na d j (x-m).toNat).2).1],(O8 b nv na d (drK b nv na d j (x-m).toNat).2).2):=by
 rw[show(x-(m-1)).toNat=(x-m).toNat+1 by omega];rfl
theorem cf4(r0:0<=j)(r1:j<=900000000):0<=t6 (nm b (j+1) Q4)/\t6 (nm b (j+1) Q4)<=3:=by
 have h:=ay7 b (k:=j+1) (l:=Q4) al al ao
 simp only[cp2,cq9,List.not_mem_nil,or_false]at h
 rcases h with h|h|h|h|h|h|h|h|h<;>rw[h]<;>decide
theorem cd5(r0:0<=j){k:Nat}(hk:k<=3):j+2<=(drK b nv na d j k).2/\(drK b nv na d j k).2<=j+2+3*cE d:=by
 have hc:=aO3 d
 have h:=bH9 (f:=O8 b nv na d) (c:=cE d) (m:=3) al k (j+2) hk fun i _ _=>a92 b nv na d i
 have h4:(k:Int)*cE d<=3*cE d:=cr8 al al
 unfold drK;omega
theorem cd4{x m:Int}(r0:0<=j)(h3:m>0)(h4:m<=x)(h5:x<=3)(r1:j+cE (d+1)<=800000000):(drK b nv na d j (x-m).toNat).2+cE d<=800000000:=by
 have hc:=aO3 d
 have hce:cE (d+1)=5+3*cE d:=rfl
 have hm:(x-m).toNat<=2:=al
 have h:=bH9 (f:=O8 b nv na d) (c:=cE d) (m:=2) al (x-m).toNat (j+2) hm fun i _ _=>a92 b nv na d i
 have h4:((x-m).toNat:Int)*cE d<=2*cE d:=cr8 al al
 unfold drK;omega
end
theorem bn2(b:List UInt8)(vs ars:List Int)(bd:List c5)(d:Nat)(hd:d<2)(j n:Int)(hn:n=d)(r0:0<=j)(r1:j<=900000000):j7.ok Tryz.prog (drC b vs ars bd d j n):=by
 refine H9 62 Tryz.func197 [.box [.ref 1,iA j],dY b,dI vs,dI ars,dT bd] [(0,.ptr 0 0),(1,pA 2),(2,iA n)] fun G=>?_;refine wp_seq (j9 G f8 [0,1,2,3,4,5,13] [.box [.ref 1,iA j],dY b,dI vs,dI ars,dT bd,.box (pL 2),.box [iA 0,iA 0,.v (.slice none 0 0)]] [(0,.ptr 0 0),(2,iA n),(4,.ptr 5 0),(6,.ptr 6 0)] fun G=>b6 (wp_seq (wp_seq ?_)));cases h0:(decide (n<2))
 ·have q0:=dFf h0;exact False.elim al
 have q0:=dTt h0;refine l6 G (K0 (fc h0 fz) [(3,0),(4,0),(5,0),(1006,0)]) [(16,bA true)] fun G=>b6 (rT G true aj (wp_seq (j9 G (v8 2 (rg 5) (aA0 b j vs ars bd ai ai)) [0,1,2,3,4,5,6,23] [.box [.ref 1,iA (j+2)],dY b,dI vs,dI ars,dT bd,.box (pL 2),.box [iA (r7 b (vs.length:Int) j).kind,iA (r7 b (vs.length:Int) j).value,.tref 7],.tree (D.exprs (r7 b (vs.length:Int) j).kids)] [(0,.ptr 0 0),(2,iA n),(4,.ptr 5 0),(6,.ptr 6 0)] fun G=>b6 (wp_ret (l0 ?_)))));exact Y0 (.agg [iA (r7 b (vs.length:Int) j).kind,iA (r7 b (vs.length:Int) j).value,.tref 7]) G [0,1,2,3,4,7] (by show _=AV.ren (nth [0,1,2,3,4,7]) (.agg [iA (O8 b (vs.length:Int) (ars.length:Int) d j).fst.kind,iA (O8 b (vs.length:Int) (ars.length:Int) d j).fst.value,.tref 5]);rw[cd3 hd]<;>rfl) (by show _=mR [0,1,2,3,4,7] [.box [.ref 1,iA (O8 b (vs.length:Int) (ars.length:Int) d j).snd],dY b,dI vs,dI ars,dT bd,.tree (D.exprs (O8 b (vs.length:Int) (ars.length:Int) d j).fst.kids)];rw[cd3 hd]<;>rfl)
abbrev aH4(b:List UInt8)(vs:List Int)(ars:List Int)(d:Nat)(j:Int)(k:Int):=drK b (vs.length:Int) (ars.length:Int) d j (t6 (nm b (j+1) Q4)-k).toNat
abbrev aB1(b:List UInt8)(vs:List Int)(ars:List Int)(d:Nat)(j:Int):AV:=(.agg [iA (O8 b (vs.length:Int) (ars.length:Int) (d+1) j).fst.kind,iA (O8 b (vs.length:Int) (ars.length:Int) (d+1) j).fst.value,.tref 5])
abbrev aB0(b:List UInt8)(vs:List Int)(ars:List Int)(bd:List c5)(d:Nat)(j:Int):List It:=[.box [.ref 1,iA (O8 b (vs.length:Int) (ars.length:Int) (d+1) j).snd],dY b,dI vs,dI ars,dT bd,.tree (D.exprs (O8 b (vs.length:Int) (ars.length:Int) (d+1) j).fst.kids)]
abbrev aR2:It:=.box [iA 0,iA 0,.v (.slice none 0 0)]
abbrev ah4(n:Int)(r0:List (Nat×AV)):List (Nat×AV):=(0,.ptr 0 0)::(2,iA n)::(4,.ptr 5 0)::(6,.ptr 6 0)::r0
theorem bN6(b:List UInt8)(vs ars:List Int)(bd:List c5)(d:Nat)(hd:0<d)(hd2:d<=100)(ih:∀(j n:Int),n=d->0<=j->j+cE d<=800000000->j7.ok Tryz.prog (drC b vs ars bd d j n))(j n:Int)(hn:n=((d+1:Nat):Int))(r0:0<=j)(r1:j+cE (d+1)<=800000000):j7.ok Tryz.prog (drC b vs ars bd (d+1) j n):=by
  refine H9 62 Tryz.func197 [.box [.ref 1,iA j],dY b,dI vs,dI ars,dT bd] [(0,.ptr 0 0),(1,pA 2),(2,iA n)] fun G=>?_;have hc:=aO3 d;have hce:cE (d+1)=5+3*cE d:=rfl;have har:=cf4 (b:=b) (j:=j) r0 al;refine wp_seq (j9 G f8 [0,1,2,3,4,5,13] [.box [.ref 1,iA j],dY b,dI vs,dI ars,dT bd,.box (pL 2),aR2] (ah4 n []) fun G=>b6 (wp_seq (wp_seq ?_)));cases h0:(decide (n<2))
  ·
   have q0:=dFf h0;refine j9 G (H5 (v7 4 [0,1] (C9 b j 4 ai al) H4) (fc h0 fz) [(3,0),(4,0),(5,0),(1006,0)]) (rg 7) [.box [.ref 1,iA (j+1)],dY b,dI vs,dI ars,dT bd,.box (pL 2),aR2] (ah4 n [(16,bA (pk b j 4==0))]) fun G=>b6 (Q7 G (fun h1 q1=>?_) fun h1 q1=>?_)
   ·
    refine wp_skip (b6 (wp_seq (j9 G (v8 2 [0,1,15] (j7.lend (S5 b (j+1) Q4 (by simp[h0,h1]) al al) [.no,.no,.row 3])) (rg 7) [.box [.ref 1,iA (j+1+1)],dY b,dI vs,dI ars,dT bd,.box (pL 2),aR2] (ah4 n [(7,iA (nm b (j+1) Q4))]) fun G=>b6 (wp_seq (wp_seq (l6 G f8 [(24,bA (nm b (j+1) Q4==3))] fun G=>b6 (Q7 G (fun h2 q2=>?_) fun h2 q2=>?_)))))))
    ·
     refine wp_skip (b6 (wp_seq (j9 G f8 [0,1,2,3,4,5,6,23] [.box [.ref 1,iA (j+1+1)],dY b,dI vs,dI ars,dT bd,.box (pL 2),aR2,.box [iA (nm b (j+1) Q4),iA 0,.v (.slice none 0 0)]] (ah4 n [(7,iA (nm b (j+1) Q4)),(8,.ptr 7 0)]) fun G=>b6 (wp_seq (wp_seq (E8 G (v8 1 [] (ao9 (nm b (j+1) Q4))) (ah4 n [(8,.ptr 7 0),(9,iA (t6 (nm b (j+1) Q4)))]) fun G=>b6 (wp_block ?_)))))));obtain⟨ρ,G⟩:=G.nilT 8 (.exprs []) [.box [.ref 1,iA (j+1+1)],dY b,dI vs,dI ars,dT bd,.box (pL 2),.box [iA 0,iA 0,.v (.slice none 0 0)],.box [iA (nm b (j+1) Q4),iA 0,.tref 8]] (ah4 n [(8,.ptr 7 0),(9,iA (t6 (nm b (j+1) Q4)))]);replace G:=G.as [.box [.ref 1,iA (drK b (vs.length:Int) (ars.length:Int) d j (t6 (nm b (j+1) Q4)-t6 (nm b (j+1) Q4)).toNat).snd],dY b,dI vs,dI ars,dT bd,.box (pL 2),.box [iA 0,iA 0,.v (.slice none 0 0)],.box [iA (nm b (j+1) Q4),iA 0,.tref 8],.tree (D.exprs (drK b (vs.length:Int) (ars.length:Int) d j (t6 (nm b (j+1) Q4)-t6 (nm b (j+1) Q4)).toNat).fst)] (ah4 n [(8,.ptr 7 0),(9,iA (t6 (nm b (j+1) Q4)))]) (by have e1:((drK b (vs.length:Int) (ars.length:Int) d j (t6 (nm b (j+1) Q4)-t6 (nm b (j+1) Q4)).toNat).snd:Int)=(j+1+1):=(by rw[Int.sub_self];show j+2=j+1+1;omega);have e2:((drK b (vs.length:Int) (ars.length:Int) d j (t6 (nm b (j+1) Q4)-t6 (nm b (j+1) Q4)).toNat).fst:List c6)=([]):=(by rw[Int.sub_self];rfl);(first|rw[e1,e2]|simp only[e1,e2])<;>rfl) aj;refine t9 (κ:=Int) (fun k=>0<=k/\k<=t6 (nm b (j+1) Q4)) (fun k=>k.toNat) (fun k=>[.box [.ref 1,iA (drK b vs.length ars.length d j (t6 (nm b (j+1) Q4)-k).toNat).2],dY b,dI vs,dI ars,dT bd,.box (pL 2),.box [iA 0,iA 0,.v (.slice none 0 0)],.box [iA (nm b (j+1) Q4),iA 0,.tref 8],.tree (.exprs (drK b vs.length ars.length d j (t6 (nm b (j+1) Q4)-k).toNat).1)]) (fun k=>[(0,.ptr 0 0),(2,iA n),(4,.ptr 5 0),(6,.ptr 6 0),(8,.ptr 7 0),(9,iA k)]) (t6 (nm b (j+1) Q4)) al (v9.at G _ _) ?_;clear G;intro k ρ a w hp G;replace G:=v9.at G [.box [.ref 1,iA (aH4 b vs ars d j k).snd],dY b,dI vs,dI ars,dT bd,.box (pL 2),aR2,.box [iA (nm b (j+1) Q4),iA 0,.tref 8],.tree (D.exprs (aH4 b vs ars d j k).fst)] (ah4 n [(8,.ptr 7 0),(9,iA k)]);have hkb:=cd5 (b:=b) (nv:=vs.length) (na:=ars.length) (d:=d) (j:=j) r0 (k:=(t6 (nm b (j+1) Q4)-k).toNat) al;have hkl:(drK b vs.length ars.length d j (t6 (nm b (j+1) Q4)-k).toNat).1.length=(t6 (nm b (j+1) Q4)-k).toNat:=a09 _ _ _;refine wp_seq (wp_seq (l6 G f8 [(48,bA (decide (k>0)))] fun G=>b6 (rcD G (fun h4 q4=>?_) fun h4 q4=>?_)))
     · refine wp_exit (t7 (t7 (t5 (b6 (wp_seq (j9 G f8 [0,1,2,3,4,6,8] [.box [.ref 1,iA (aH4 b vs ars d j k).snd],dY b,dI vs,dI ars,dT bd,.box [iA (nm b (j+1) Q4),iA 0,.tref 6],.tree (D.exprs (aH4 b vs ars d j k).fst)] [(6,.ptr 5 0)] fun G=>b6 (wp_ret ?_)))))));exact Y0 (.agg [iA (nm b (j+1) Q4),iA 0,.tref 6]) G [0,1,2,3,4,6] (by show _=AV.ren (nth [0,1,2,3,4,6]) (aB1 b vs ars d j);unfold aB1;rw[cd2 (m:=k) hd al al al al]<;>rfl) (by show _=mR [0,1,2,3,4,6] (aB0 b vs ars bd d j);unfold aB0;rw[cd2 (m:=k) hd al al al al]<;>rfl)
     refine wp_skip (b6 (wp_seq (wp_block (R3 G (v8 6 (rg 5) (ih ((drK b (vs.length:Int) (ars.length:Int) d j (t6 (nm b (j+1) Q4)-k).toNat).snd) (n-1) al al (cd4 al al al al r1))) [0,1,0,0,0,16,60,124,255,511,1023] [0,1,2,3,4,5,6,7,73] [.box [.ref 1,iA (O8 b (vs.length:Int) (ars.length:Int) d (aH4 b vs ars d j k).snd).snd],dY b,dI vs,dI ars,dT bd,.box (pL 2),aR2,.box [iA (nm b (j+1) Q4),iA 0,.tref 8],.tree (D.exprs ((aH4 b vs ars d j k).fst++[y7 (O8 b (vs.length:Int) (ars.length:Int) d (aH4 b vs ars d j k).snd).fst]))] (ah4 n [(8,.ptr 7 0),(9,iA k)]) ((wO (n-1))::(aP ((drK b (vs.length:Int) (ars.length:Int) d j (t6 (nm b (j+1) Q4)-k).toNat).fst.length+1) 40 [])) ⟨oW al,(aK al co8)⟩ fun G=>n4 (b6 (M8 G f8 [(9,iA (k-1))] [wO (k-1)] (o1 al) fun G=>b6 ?_))))));exact R2 G (k-1) al al (rg 9) (by have e1:((drK b (vs.length:Int) (ars.length:Int) d j (t6 (nm b (j+1) Q4)-(k-1)).toNat).snd:Int)=((O8 b (vs.length:Int) (ars.length:Int) d (drK b (vs.length:Int) (ars.length:Int) d j (t6 (nm b (j+1) Q4)-k).toNat).snd).snd):=(by rw[bq7 al al];done);have e2:((drK b (vs.length:Int) (ars.length:Int) d j (t6 (nm b (j+1) Q4)-(k-1)).toNat).fst:List c6)=((drK b (vs.length:Int) (ars.length:Int) d j (t6 (nm b (j+1) Q4)-k).toNat).fst++[y7 (O8 b (vs.length:Int) (ars.length:Int) d (drK b (vs.length:Int) (ars.length:Int) d j (t6 (nm b (j+1) Q4)-k).toNat).snd).fst]):=(by rw[bq7 al al];(simp only[c6.eta];done));(first|rw[e1,e2]|simp only[e1,e2])<;>rfl)
    refine wp_seq (wp_seq (l6 G f8 [(28,bA ((ars.length:Int)==0))] fun G=>b6 (Q7 G (fun h3 q3=>?_) fun h3 q3=>?_)))
    · refine wp_skip (b6 (wp_seq (af6 G (H5 (v7 5 [0,1] (C9 b (j+1+1) ((ars.length:Int)) al al) (v7 8 (rg 5) (aA0 b (j+1+1+1) vs ars bd al al) H4)) fz []) [0,0,0,4,12,30,0,0,254,510,1023,2047] [0,1,2,3,4,5,6,79] [.box [.ref 1,iA (j+1+1+1+2)],dY b,dI vs,dI ars,dT bd,.box (pL 2),.box [iA (nm b (j+1) Q4),iA (pk b (j+1+1) (ars.length:Int)),.tref 7],.tree (D.exprs [y7 (r7 b (vs.length:Int) (j+1+1+1))])] (ah4 n [(7,iA (nm b (j+1) Q4))]) fun G=>b6 (wp_ret (l0 ?_)))));exact Y0 (.agg [iA (nm b (j+1) Q4),iA (pk b (j+1+1) (ars.length:Int)),.tref 7]) G [0,1,2,3,4,7] (by show _=AV.ren (nth [0,1,2,3,4,7]) (aB1 b vs ars d j);unfold aB1;have e1:((O8 b (vs.length:Int) (ars.length:Int) (d+1) j).fst.kind:Int)=(nm b (j+1) Q4):=(by rw[bR2 hd al al al];(simp only[Int.add_assoc,Int.reduceAdd,c6.eta,c6.kids,c6.kind,c6.value];omega));have e2:((O8 b (vs.length:Int) (ars.length:Int) (d+1) j).fst.value:Int)=(pk b (j+1+1) (ars.length:Int)):=(by rw[bR2 hd al al al];(simp only[Int.add_assoc,Int.reduceAdd,c6.eta,c6.kids,c6.kind,c6.value];done));(first|rw[e1,e2]|simp only[e1,e2])<;>rfl) (by show _=mR [0,1,2,3,4,7] (aB0 b vs ars bd d j);unfold aB0;have e1:((O8 b (vs.length:Int) (ars.length:Int) (d+1) j).snd:Int)=(j+1+1+1+2):=(by rw[bR2 hd al al al];(simp only[Int.add_assoc,Int.reduceAdd,c6.eta,c6.kids,c6.kind,c6.value];done));have e2:((O8 b (vs.length:Int) (ars.length:Int) (d+1) j).fst.kids:List c6)=([y7 (r7 b (vs.length:Int) (j+1+1+1))]):=(by rw[bR2 hd al al al];show [_]=_;simp only[Int.add_assoc,Int.reduceAdd,c6.eta];done);(first|rw[e1,e2]|simp only[e1,e2])<;>rfl)
    refine wp_seq (j9 G (v8 2 (rg 5) (aA0 b (j+1+1) vs ars bd al al)) [0,1,2,3,4,5,6,23] [.box [.ref 1,iA (j+1+1+2)],dY b,dI vs,dI ars,dT bd,.box (pL 2),.box [iA (r7 b (vs.length:Int) (j+1+1)).kind,iA (r7 b (vs.length:Int) (j+1+1)).value,.tref 7],.tree (D.exprs (r7 b (vs.length:Int) (j+1+1)).kids)] (ah4 n [(7,iA (nm b (j+1) Q4))]) fun G=>b6 (wp_ret (l0 (l0 ?_))));exact Y0 (.agg [iA (r7 b (vs.length:Int) (j+1+1)).kind,iA (r7 b (vs.length:Int) (j+1+1)).value,.tref 7]) G [0,1,2,3,4,7] (by show _=AV.ren (nth [0,1,2,3,4,7]) (aB1 b vs ars d j);unfold aB1;have e1:((O8 b (vs.length:Int) (ars.length:Int) (d+1) j).fst.kind:Int)=((r7 b (vs.length:Int) (j+1+1)).kind):=(by rw[bR3 hd al al al];(simp only[Int.add_assoc,Int.reduceAdd,c6.eta,c6.kids,c6.kind,c6.value];done));have e2:((O8 b (vs.length:Int) (ars.length:Int) (d+1) j).fst.value:Int)=((r7 b (vs.length:Int) (j+1+1)).value):=(by rw[bR3 hd al al al];(simp only[Int.add_assoc,Int.reduceAdd,c6.eta,c6.kids,c6.kind,c6.value];done));(first|rw[e1,e2]|simp only[e1,e2])<;>rfl) (by show _=mR [0,1,2,3,4,7] (aB0 b vs ars bd d j);unfold aB0;have e1:((O8 b (vs.length:Int) (ars.length:Int) (d+1) j).snd:Int)=(j+1+1+2):=(by rw[bR3 hd al al al];(simp only[Int.add_assoc,Int.reduceAdd,c6.eta,c6.kids,c6.kind,c6.value];done));have e2:((O8 b (vs.length:Int) (ars.length:Int) (d+1) j).fst:c6)=(r7 b (vs.length:Int) (j+1+1)):=(by rw[bR3 hd al al al];(simp only[Int.add_assoc,Int.reduceAdd,c6.eta,c6.kids,c6.kind,c6.value];done));(first|rw[e1,e2]|simp only[e1,e2])<;>rfl)
   refine wp_seq (j9 G (v8 2 (rg 5) (aA0 b (j+1) vs ars bd al al)) [0,1,2,3,4,5,6,23] [.box [.ref 1,iA (j+1+2)],dY b,dI vs,dI ars,dT bd,.box (pL 2),.box [iA (r7 b (vs.length:Int) (j+1)).kind,iA (r7 b (vs.length:Int) (j+1)).value,.tref 7],.tree (D.exprs (r7 b (vs.length:Int) (j+1)).kids)] (ah4 n []) fun G=>b6 (wp_ret (l0 ?_)));exact Y0 (.agg [iA (r7 b (vs.length:Int) (j+1)).kind,iA (r7 b (vs.length:Int) (j+1)).value,.tref 7]) G [0,1,2,3,4,7] (by show _=AV.ren (nth [0,1,2,3,4,7]) (aB1 b vs ars d j);unfold aB1;rw[b24 hd al]<;>rfl) (by show _=mR [0,1,2,3,4,7] (aB0 b vs ars bd d j);unfold aB0;have e1:((O8 b (vs.length:Int) (ars.length:Int) (d+1) j).snd:Int)=(j+1+2):=(by rw[b24 hd al];(simp only[Int.add_assoc,Int.reduceAdd,c6.eta,c6.kids,c6.kind,c6.value];done));rw[e1,b24 hd al]<;>rfl)
  have q0:=dTt h0;exact False.elim al
theorem bK5(b:List UInt8)(vs ars:List Int)(bd:List c5):∀(d:Nat) (j n:Int),d<=100->n=d->0<=j->j+cE d<=800000000->j7.ok Tryz.prog (drC b vs ars bd d j n)
 |0,j,n,_,hn,r0,r1=>bn2 b vs ars bd 0 al j n hn r0 (by have:=aO3 0;omega)
 |1,j,n,_,hn,r0,r1=>bn2 b vs ars bd 1 al j n hn r0 (by have:=aO3 1;omega)
 |d+2,j,n,hd,hn,r0,r1=>bN6 b vs ars bd (d+1) al al (fun j n=>bK5 b vs ars bd (d+1) j n al) j n hn r0 r1
abbrev smC(b:List UInt8)(vs ars:List Int)(bd:List c5)(j:Int):j7:=⟨189,[.ptr 0 0,pA 2],dwS b j vs ars bd,dwS b (z3 b vs.length ars.length j).2 vs ars bd++exO (z3 b vs.length ars.length j).1,exA (z3 b vs.length ars.length j).1 5⟩
section
variable{b:List UInt8}{nv na:Nat}{j:Int}
theorem b72(h:s7 nv na (O8 b nv na (nm b j dpL).toNat (j+1)).1=true):z3 b nv na j=O8 b nv na (nm b j dpL).toNat (j+1):=if_pos h
theorem b71(h:s7 nv na (O8 b nv na (nm b j dpL).toNat (j+1)).1=false):z3 b nv na j=(r7 b nv (O8 b nv na (nm b j dpL).toNat (j+1)).2,(O8 b nv na (nm b j dpL).toNat (j+1)).2+2):=if_neg (by rw[h];decide)
theorem cg5(r0:0<=j)(r1:j<=700000000):cE (nm b j dpL).toNat<=364:=cE4 (dp4 b r0 al).2.2
end
abbrev ad8(b:List UInt8)(vs:List Int)(ars:List Int)(j:Int):=O8 b (vs.length:Int) (ars.length:Int) (nm b j dpL).toNat (j+1)
theorem ah0(b:List UInt8)(vs ars:List Int)(bd:List c5)(j:Int)(r0:0<=j)(r1:j<=700000000):j7.ok Tryz.prog (smC b vs ars bd j):=by
 have hdr:=fun(i n:Int)=>bK5 b vs ars bd (nm b j dpL).toNat i n (cp4 (dp4 b r0 al).2.2 al)
 refine H9 19 Tryz.func189 [.box [.ref 1,iA j],dY b,dI vs,dI ars,dT bd] [(0,.ptr 0 0),(1,pA 2)] fun G=>?_;have hd4:=cg5 (b:=b) r0 r1;have hdb:=a92 b vs.length ars.length (nm b j dpL).toNat (j+1);refine wp_seq (j9 G f8 [0,1,2,3,4,5,13] [.box [.ref 1,iA j],dY b,dI vs,dI ars,dT bd,.box (pL 2),.box [iA 0,iA 0,.v (.slice none 0 0)]] [(0,.ptr 0 0),(3,.ptr 5 0),(4,.ptr 6 0)] fun G=>b6 (wp_seq (af6 G (H5 (v7 4 [0,1,31] (j7.lend (S5 b j dpL (List.cons_ne_nil _ _) ai al) [.no,.no,.row 3]) (v7 5 (rg 5) (hdr (j+1) (nm b j dpL) (b25 b al al) al al) H4)) fz []) [0,0,0,0,12,31,0,127] [0,1,2,3,4,5,6,47,55] [.box [.ref 1,iA (ad8 b vs ars j).snd],dY b,dI vs,dI ars,dT bd,.box (pL 2),.box [iA 0,iA 0,.v (.slice none 0 0)],.tree (D.exprs (ad8 b vs ars j).fst.kids),.box [iA (ad8 b vs ars j).fst.kind,iA (ad8 b vs ars j).fst.value,.tref 7]] [(0,.ptr 0 0),(3,.ptr 5 0),(4,.ptr 6 0),(5,.ptr 8 0)] fun G=>b6 (wp_seq (wp_seq (l6 G (v8 2 [2,3,4,7] (j7.lend (bj6 vs ars bd ((O8 b (vs.length:Int) (ars.length:Int) (nm b j dpL).toNat (j+1)).fst)) [.no,.no,.no,.tree])) [(14,bA (s7 vs.length ars.length (ad8 b vs ars j).fst))] fun G=>b6 (rcB (b:=s7 vs.length ars.length (O8 b (vs.length:Int) (ars.length:Int) (nm b j dpL).toNat (j+1)).fst) G (fun h0=>?_) fun h0=>?_)))))))
 ·refine wp_skip (b6 (wp_seq (j9 G (v8 2 (rg 5) (aA0 b ((O8 b (vs.length:Int) (ars.length:Int) (nm b j dpL).toNat (j+1)).snd) vs ars bd al al)) [0,1,2,3,4,6,25] [.box [.ref 1,iA ((ad8 b vs ars j).snd+2)],dY b,dI vs,dI ars,dT bd,.box [iA (r7 b (vs.length:Int) (ad8 b vs ars j).snd).kind,iA (r7 b (vs.length:Int) (ad8 b vs ars j).snd).value,.tref 6],.tree (D.exprs (r7 b (vs.length:Int) (ad8 b vs ars j).snd).kids)] [(4,.ptr 5 0)] fun G=>b6 (wp_ret ?_))));exact Y0 (.agg [iA (r7 b (vs.length:Int) (O8 b (vs.length:Int) (ars.length:Int) (nm b j dpL).toNat (j+1)).snd).kind,iA (r7 b (vs.length:Int) (O8 b (vs.length:Int) (ars.length:Int) (nm b j dpL).toNat (j+1)).snd).value,.tref 6]) G [0,1,2,3,4,6] (by show _=AV.ren (nth [0,1,2,3,4,6]) (.agg [iA (z3 b vs.length ars.length j).fst.kind,iA (z3 b vs.length ars.length j).fst.value,.tref 5]);rw[b71 ab]<;>rfl) (by show _=mR [0,1,2,3,4,6] [.box [.ref 1,iA (z3 b vs.length ars.length j).snd],dY b,dI vs,dI ars,dT bd,.tree (D.exprs (z3 b vs.length ars.length j).fst.kids)];rw[b71 ab]<;>rfl)
 refine wp_seq (j9 G f8 (rg 8) [.box [.ref 1,iA (ad8 b vs ars j).snd],dY b,dI vs,dI ars,dT bd,.box (pL 2),.box [iA (ad8 b vs ars j).fst.kind,iA (ad8 b vs ars j).fst.value,.tref 7],.tree (D.exprs (ad8 b vs ars j).fst.kids)] [(0,.ptr 0 0),(3,.ptr 5 0),(4,.ptr 6 0)] fun G=>b6 (wp_ret (l0 ?_)));exact Y0 (.agg [iA (O8 b (vs.length:Int) (ars.length:Int) (nm b j dpL).toNat (j+1)).fst.kind,iA (O8 b (vs.length:Int) (ars.length:Int) (nm b j dpL).toNat (j+1)).fst.value,.tref 7]) G [0,1,2,3,4,7] (by show _=AV.ren (nth [0,1,2,3,4,7]) (.agg [iA (z3 b vs.length ars.length j).fst.kind,iA (z3 b vs.length ars.length j).fst.value,.tref 5]);rw[b72 ab]<;>rfl) (by show _=mR [0,1,2,3,4,7] [.box [.ref 1,iA (z3 b vs.length ars.length j).snd],dY b,dI vs,dI ars,dT bd,.tree (D.exprs (z3 b vs.length ars.length j).fst.kids)];rw[b72 ab]<;>rfl)
abbrev stO(s:c5):List It:=[.tree (.exprs s.index.kids),.tree (.exprs s.value.kids),.tree (.stmts s.body),.tree (.stmts s.els)]
abbrev stA(s:c5)(r:Nat):AV:=.agg [iA s.kind,iA s.target,iA s.index.kind,iA s.index.value,.tref r,iA s.value.kind,iA s.value.value,.tref (r+1),iA s.count,.tref (r+2),.tref (r+3)]
abbrev dsC(b:List UInt8)(vs ars:List Int)(bd:List c5)(d:Nat)(j n:Int):j7:=⟨171,[.ptr 0 0,pA 2,iA n],dwS b j vs ars bd,dwS b (E0 b vs.length ars.length d j).2 vs ars bd++stO (E0 b vs.length ars.length d j).1,stA (E0 b vs.length ars.length d j).1 5⟩
abbrev dbC(b:List UInt8)(vs ars:List Int)(bd:List c5)(d:Nat)(m:Nat)(j n c:Int):j7:=⟨126,[.ptr 0 0,pA 2,iA n,iA c],dwS b j vs ars bd,dwS b (J4 (E0 b vs.length ars.length d) m j).2 vs ars bd++[.tree (.stmts (J4 (E0 b vs.length ars.length d) m j).1)],.tref 5⟩
section
variable{b:List UInt8}{nv na d:Nat}{j:Int}
theorem bz9(h:nm b j N6=2)(h1:0<(na:Int)):E0 b nv na d j=soS b nv na (j+1):=by
 cases d<;>(rw[E0,if_pos ⟨h,al⟩])
theorem b69(h:nm b j N6=3)(h1:0<d):E0 b nv na (d+1) j=ifS b nv na (E0 b nv na d) (j+1):=by
 rw[E0,if_neg al,if_pos ⟨h,al⟩]
theorem b68(h:nm b j N6=4)(h1:0<d):E0 b nv na (d+1) j=rpS b (E0 b nv na d) (j+1):=by
 rw[E0,if_neg al,if_neg al,if_pos ⟨h,al⟩]
theorem aj9(h:¬(nm b j N6=2/\0<(na:Int)))(h1:d<2\/(¬nm b j N6=3/\¬nm b j N6=4)):E0 b nv na d j=dfS b nv na (nm b j N6) (j+1):=by
 match d,h1 with
 |0,_=>rw[E0,if_neg al]
 |d+1,h1=>rw[E0,if_neg al,if_neg al,if_neg al]
theorem b26{kd:Int}(h:kd=5):dfS b nv na kd j=(⟨5,pk b j nv,noE,(z3 b nv na (j+1)).1,0,[],[]⟩,(z3 b nv na (j+1)).2):=by rw[dfS,if_pos h]
theorem a93{kd:Int}(h:¬kd=5):dfS b nv na kd j=(⟨1,pk b j nv,noE,(z3 b nv na (j+1)).1,0,[],[]⟩,(z3 b nv na (j+1)).2):=by rw[dfS,if_neg h]
end
section
variable(b:List UInt8){j:Int}
theorem cl1(r0:0<=j)(r1:j<=1000000000):0<=nm b j ibL/\nm b j ibL<=2:=aS8 b ao bh2 r0 r1
theorem cl0(r0:0<=j)(r1:j<=1000000000):0<=nm b j ieL/\nm b j ieL<=2:=aS8 b ao bh0 r0 r1
theorem ch5(r0:0<=j)(r1:j<=1000000000):0<=nm b j rbL/\nm b j rbL<=2:=aS8 b ao be8 r0 r1
theorem bS7(d:Nat):(d=0/\cS (d-1)=402/\cS d<=2010)\/cS d=402+4*cS (d-1):=by
 cases d with
 |zero=>exact .inl ⟨rfl,rfl,ak⟩
 |succ d=>exact .inr rfl
end
section
variable{b:List UInt8}{nv na d:Nat}{j:Int}
theorem bd3(h:nm b j N6=3)(h1:1<d):E0 b nv na d j=ifS b nv na (E0 b nv na (d-1)) (j+1):=by
 match d,h1 with
 |d+1,h1=>exact b69 h al
theorem bd2(h:nm b j N6=4)(h1:1<d):E0 b nv na d j=rpS b (E0 b nv na (d-1)) (j+1):=by
 match d,h1 with
 |d+1,h1=>exact b68 h al
end
abbrev bT4(b:List UInt8)(vs:List Int)(ars:List Int)(d:Nat)(j:Int)(k:Nat):=E0 b vs.length ars.length d (J4 (E0 b vs.length ars.length d) k j).snd
abbrev a21(n:Int)(c:Int)(r0:List (Nat×AV)):List (Nat×AV):=(0,.ptr 0 0)::(2,iA n)::(3,iA c)::(5,.ptr 5 0)::(8,.v (.slice none 0 0))::r0
theorem bN7(b:List UInt8)(vs ars:List Int)(bd:List c5)(d m:Nat)(ih:∀(j n:Int),n=d->0<=j->j+cS d<=600000000->j7.ok Tryz.prog (dsC b vs ars bd d j n))(j n c:Int)(hn:n=d)(hm:c=m)(hm2:m<=4)(B:Int)(hB:(m:Int)*cS d<=B)(r0:0<=j)(r1:j+B<=600000000):j7.ok Tryz.prog (dbC b vs ars bd d m j n c):=by
 refine H9 25 Tryz.func126 [.box [.ref 1,iA j],dY b,dI vs,dI ars,dT bd] [(0,.ptr 0 0),(1,pA 2),(2,iA n),(3,iA c)] fun G=>?_;have hc:=aC7 d;refine wp_seq (j9 G f8 (rg 6) [.box [.ref 1,iA j],dY b,dI vs,dI ars,dT bd,.box (pL 2)] (a21 n c []) fun G=>b6 (wp_seq (j9 G f8 (rg 7) [.box [.ref 1,iA j],dY b,dI vs,dI ars,dT bd,.box (pL 2),.tree (D.stmts [])] (a21 n c [(9,.tref 6)]) fun G=>b6 (wp_seq (wp_seq (E8 G f8 (a21 n c [(9,.tref 6),(10,iA 0)]) fun G=>b6 (wp_block ?_)))))));refine t9 (κ:=Nat) (fun k=>k<=m) (fun k=>m-k) (fun k=>[.box [.ref 1,iA (J4 (E0 b vs.length ars.length d) k j).2],dY b,dI vs,dI ars,dT bd,.box (pL 2),.tree (.stmts (J4 (E0 b vs.length ars.length d) k j).1)]) (fun k=>[(0,.ptr 0 0),(2,iA n),(3,iA c),(5,.ptr 5 0),(8,.v (.slice none 0 0)),(9,.tref 6),(10,iA k)]) 0 al (v9.at G _ _) ?_;clear G;intro k ρ a w hp G;replace G:=v9.at G [.box [.ref 1,iA (J4 (E0 b vs.length ars.length d) k j).snd],dY b,dI vs,dI ars,dT bd,.box (pL 2),.tree (D.stmts (J4 (E0 b vs.length ars.length d) k j).fst)] (a21 n c [(9,.tref 6),(10,iA k)]);have hkb:=bW5 b vs.length ars.length (k:=j) (i:=k) hB al r0 al;have hkl:(J4 (E0 b vs.length ars.length d) k j).1.length=k:=a09 _ _ _;refine wp_seq (wp_seq (l6 G f8 [(14,bA (decide ((k:Int)<c)))] fun G=>b6 (rcD G (fun h0 q0=>?_) fun h0 q0=>?_)))
 ·refine wp_exit (t7 (t7 (t5 (b6 (wp_seq (j9 G f8 [0,1,2,3,4,6] [.box [.ref 1,iA (J4 (E0 b vs.length ars.length d) k j).snd],dY b,dI vs,dI ars,dT bd,.tree (D.stmts (J4 (E0 b vs.length ars.length d) k j).fst)] [(8,.tref 5)] fun G=>b6 (wp_ret ?_)))))));exact O7 G (rg 6) (by show _=mR (rg 6) [.box [.ref 1,iA (J4 (E0 b vs.length ars.length d) m j).snd],dY b,dI vs,dI ars,dT bd,.tree (D.stmts (J4 (E0 b vs.length ars.length d) m j).fst)];rw[show m=k by omega]<;>rfl)
 refine wp_skip (b6 (wp_seq (wp_block (Z5 G (v8 4 (rg 5) (ih ((J4 (E0 b vs.length ars.length d) k j).snd) n ai al (by have:=cf0 b vs.length ars.length (k:=j) (i:=k) hB al r0 al;omega))) [0,1,2,3,4,5,55] [.box [.ref 1,iA (bT4 b vs ars d j k).snd],dY b,dI vs,dI ars,dT bd,.box (pL 2),.tree (D.stmts ((J4 (E0 b vs.length ars.length d) k j).fst++[qzS (bT4 b vs ars d j k).fst]))] (a21 n c [(9,.tref 6),(10,iA k)]) (aP ((J4 (E0 b vs.length ars.length d) k j).fst.length+1) 152 []) (aK al co8) fun G=>n4 (b6 (M8 G f8 [(10,iA ((k:Int)+1))] [wO ((k:Int)+1)] (o1 al) fun G=>b6 ?_))))));exact R2 G (k+1) al al (rg 7) (by have e1:((J4 (E0 b vs.length ars.length d) (k+1) j).fst:List c5)=((J4 (E0 b vs.length ars.length d) k j).fst++[qzS (E0 b vs.length ars.length d (J4 (E0 b vs.length ars.length d) k j).snd).fst]):=(by show _++[_]=_++[_];unfold qzS;rw[c6.eta,c6.eta,c5.eta];done);(first|rw[e1]|simp only[e1])<;>rfl)
abbrev aR1(b:List UInt8)(vs:List Int)(ars:List Int)(d:Nat)(j:Int):=J4 (E0 b vs.length ars.length (d-1)) (nm b (z3 b vs.length ars.length (j+1)).snd ibL).toNat ((z3 b vs.length ars.length (j+1)).snd+1)
abbrev bl8(b:List UInt8)(vs:List Int)(ars:List Int)(d:Nat)(j:Int):=J4 (E0 b vs.length ars.length (d-1)) (nm b (aR1 b vs ars d j).snd ieL).toNat ((aR1 b vs ars d j).snd+1)
abbrev Y6(b:List UInt8)(vs:List Int)(ars:List Int)(d:Nat)(j:Int):AV:=(.agg [iA (E0 b vs.length ars.length d j).fst.kind,iA (E0 b vs.length ars.length d j).fst.target,iA (E0 b vs.length ars.length d j).fst.index.kind,iA (E0 b vs.length ars.length d j).fst.index.value,.tref 5,iA (E0 b vs.length ars.length d j).fst.value.kind,iA (E0 b vs.length ars.length d j).fst.value.value,.tref 6,iA (E0 b vs.length ars.length d j).fst.count,.tref 7,.tref 8])
abbrev Y5(b:List UInt8)(vs:List Int)(ars:List Int)(bd:List c5)(d:Nat)(j:Int):List It:=[.box [.ref 1,iA (E0 b vs.length ars.length d j).snd],dY b,dI vs,dI ars,dT bd,.tree (D.exprs (E0 b vs.length ars.length d j).fst.index.kids),.tree (D.exprs (E0 b vs.length ars.length d j).fst.value.kids),.tree (D.stmts (E0 b vs.length ars.length d j).fst.body),.tree (D.stmts (E0 b vs.length ars.length d j).fst.els)]
abbrev at4:It:=.box [iA 0,iA 0,iA 0,iA 0,.v (.slice none 0 0),iA 0,iA 0,.v (.slice none 0 0),iA 0,.v (.slice none 0 0),.v (.slice none 0 0)]
abbrev bl7(b:List UInt8)(vs:List Int)(ars:List Int)(j:Int):It:=.box [iA 1,iA (pk b (j+1) (vs.length:Int)),iA 0,iA 0,.v (.slice none 0 0),iA (z3 b vs.length ars.length (j+1+1)).fst.kind,iA (z3 b vs.length ars.length (j+1+1)).fst.value,.tref 7,iA 0,.v (.slice none 0 0),.v (.slice none 0 0)]
abbrev bl6(b:List UInt8)(vs:List Int)(ars:List Int)(j:Int):It:=.box [iA 1,iA (pk b (j+1) (vs.length:Int)),iA 0,iA 0,.v (.slice none 0 0),iA (z3 b vs.length ars.length (j+1+1)).fst.kind,iA (z3 b vs.length ars.length (j+1+1)).fst.value,.tref 6,iA 0,.v (.slice none 0 0),.v (.slice none 0 0)]
abbrev bl5(b:List UInt8)(vs:List Int)(j:Int):It:=.box [iA 1,iA (pk b (j+1) (vs.length:Int)),iA 0,iA 0,.v (.slice none 0 0),iA 0,iA 0,.v (.slice none 0 0),iA 0,.v (.slice none 0 0),.v (.slice none 0 0)]
abbrev ap4(b:List UInt8)(vs:List Int)(ars:List Int)(j:Int):It:=.tree (D.exprs (z3 b vs.length ars.length (j+1+1)).fst.kids)
abbrev ad1(b:List UInt8)(vs:List Int)(ars:List Int)(j:Int):It:=.box [.ref 1,iA (z3 b vs.length ars.length (j+1+1)).snd]
abbrev aW0:It:=.box [iA 1,iA 0,iA 0,iA 0,.v (.slice none 0 0),iA 0,iA 0,.v (.slice none 0 0),iA 0,.v (.slice none 0 0),.v (.slice none 0 0)]
abbrev bk8(b:List UInt8)(vs:List Int)(ars:List Int)(bd:List c5)(j:Int)(r0:List It):List It:=.box [.ref 1,iA (z3 b vs.length ars.length (j+1+1)).snd]::dY b::dI vs::dI ars::dT bd::.box [iA 1,iA (pk b (j+1) (vs.length:Int)),iA 0,iA 0,.tref 7,iA (z3 b vs.length ars.length (j+1+1)).fst.kind,iA (z3 b vs.length ars.length (j+1+1)).fst.value,.tref 6,iA 0,.tref 8,.tref 9]::.tree (D.exprs (z3 b vs.length ars.length (j+1+1)).fst.kids)::.tree (D.exprs [])::.tree (D.stmts [])::r0
abbrev bk7(b:List UInt8)(vs:List Int)(ars:List Int)(bd:List c5)(j:Int)(r0:List It):List It:=.box [.ref 1,iA (z3 b vs.length ars.length (j+1+1)).snd]::dY b::dI vs::dI ars::dT bd::.box [iA 1,iA (pk b (j+1) (vs.length:Int)),iA 0,iA 0,.tref 7,iA (z3 b vs.length ars.length (j+1+1)).fst.kind,iA (z3 b vs.length ars.length (j+1+1)).fst.value,.tref 6,iA 0,.tref 8,.v (.slice none 0 0)]::.tree (D.exprs (z3 b vs.length ars.length (j+1+1)).fst.kids)::.tree (D.exprs [])::r0
abbrev bk6(b:List UInt8)(vs:List Int)(ars:List Int)(bd:List c5)(j:Int)(r0:List It):List It:=.box [.ref 1,iA (z3 b vs.length ars.length (j+1+1)).snd]::dY b::dI vs::dI ars::dT bd::.box [iA 1,iA (pk b (j+1) (vs.length:Int)),iA 0,iA 0,.tref 7,iA (z3 b vs.length ars.length (j+1+1)).fst.kind,iA (z3 b vs.length ars.length (j+1+1)).fst.value,.tref 6,iA 0,.v (.slice none 0 0),.v (.slice none 0 0)]::.tree (D.exprs (z3 b vs.length ars.length (j+1+1)).fst.kids)::r0
abbrev ab9(r0:List (Nat×AV)):List (Nat×AV):=(0,.ptr 0 0)::(4,.ptr 5 0)::(6,.ptr 6 0)::(8,.ptr 7 0)::r0
abbrev a20(b:List UInt8)(vs:List Int)(ars:List Int)(d:Nat)(j:Int)(r0:List It):List It:=.box [.ref 1,iA (J4 (E0 b vs.length ars.length (d-1)) (nm b (j+1+1) rbL).toNat (j+1+1+1)).snd]::dY b::dI vs::dI ars::r0
abbrev at2(n:Int)(r0:List (Nat×AV)):List (Nat×AV):=(0,.ptr 0 0)::(2,iA n)::(4,.ptr 5 0)::(6,.ptr 6 0)::r0
abbrev W5(b:List UInt8)(vs:List Int)(ars:List Int)(bd:List c5)(r0:List It):List It:=dY b::dI vs::dI ars::dT bd::.box (pL 2)::at4::r0
abbrev bk5(b:List UInt8)(vs:List Int)(ars:List Int)(j:Int)(r0:List It):List It:=.tree (D.exprs (r7 b (vs.length:Int) (j+1+1)).kids)::.tree (D.exprs (z3 b vs.length ars.length (j+1+1+2)).fst.kids)::r0
theorem bA6(b:List UInt8)(vs ars:List Int)(bd:List c5)(d:Nat)(hd:d<=3)(ih:∀(j n c:Int),1<d->n=(d:Int)-1->0<=c->c<=2->0<=j->j+2*cS (d-1)<=600000000->j7.ok Tryz.prog (dbC b vs ars bd (d-1) c.toNat j n c))(j n:Int)(hn:n=d)(r0:0<=j)(r1:j+cS d<=600000000):j7.ok Tryz.prog (dsC b vs ars bd d j n):=by
  refine H9 100 Tryz.func171 [.box [.ref 1,iA j],dY b,dI vs,dI ars,dT bd] [(0,.ptr 0 0),(1,pA 2),(2,iA n)] fun G=>?_;have hc:=aC7 (d-1);have hcd:=bS7 d;have hcn:=aC7 d;have hsm:=bm9 b vs.length ars.length (k:=j+1) al al;have hib:=cl1 b (j:=(z3 b vs.length ars.length (j+1)).2) al al;have hbb:=bW5 b vs.length ars.length (k:=(z3 b vs.length ars.length (j+1)).2+1) (i:=(nm b (z3 b vs.length ars.length (j+1)).2 ibL).toNat) (ca1 hib.1 hib.2 (show 0<=cS (d-1) by omega)) (cn4 _) al al;have hie:=cl0 b (j:=(J4 (E0 b vs.length ars.length (d-1)) (nm b (z3 b vs.length ars.length (j+1)).2 ibL).toNat ((z3 b vs.length ars.length (j+1)).2+1)).2) al al;have hrb:=ch5 b (j:=j+1+1) al al;refine wp_seq (j9 G f8 [0,1,2,3,4,5,13] (.box [.ref 1,iA j]::(W5 b vs ars bd [])) (at2 n []) fun G=>b6 (wp_seq (j9 G (v8 2 [0,1,15] (j7.lend (S5 b j N6 (List.cons_ne_nil _ _) ai al) [.no,.no,.row 3])) (rg 7) (.box [.ref 1,iA (j+1)]::(W5 b vs ars bd [])) (at2 n [(7,iA (nm b j N6))]) fun G=>b6 (wp_seq (j9 G f8 [0,1,2,3,4,5,6,23] (.box [.ref 1,iA (j+1)]::(W5 b vs ars bd [.box [iA (nm b j N6),iA 0,iA 0,iA 0,.v (.slice none 0 0),iA 0,iA 0,.v (.slice none 0 0),iA 0,.v (.slice none 0 0),.v (.slice none 0 0)]])) (at2 n [(7,iA (nm b j N6)),(8,.ptr 7 0)]) fun G=>b6 (wp_seq (wp_block (wp_seq ?_))))))));cases h0:(nm b j N6==2)
  ·
   have q0:=ne_of_beq_false h0;refine l6 G (K0 (fc h0 fz) (us [(3,6,0),(1007,1007,0)])) [(27,bA false)] fun G=>b6 (rF G false aj (wp_seq ?_));cases h1:(nm b j N6==3)
   ·
    have q1:=ne_of_beq_false h1;refine l6 G (K0 (fc h1 fz) [(3,0),(4,0),(1005,0)]) [(50,bA false)] fun G=>b6 (rF G false aj (wp_seq ?_));cases h2:(nm b j N6==4)
    ·
     have q2:=ne_of_beq_false h2;refine l6 G (K0 (fc h2 fz) [(3,0),(4,0),(1005,0)]) [(79,bA false)] fun G=>b6 (rF G false aj (wp_seq (wp_seq (l6 G f8 [(15,bA (nm b j N6 !=5))] fun G=>b6 (rcN G (fun h3 q3=>?_) fun h3 q3=>?_)))))
     · refine wp_skip (b6 (wp_seq (j9 G (v8 4 [0,1] (C9 b (j+1) ((vs.length:Int)) al al)) (rg 8) (.box [.ref 1,iA (j+1+1)]::(W5 b vs ars bd [.box [iA (nm b j N6),iA (pk b (j+1) (vs.length:Int)),iA 0,iA 0,.v (.slice none 0 0),iA 0,iA 0,.v (.slice none 0 0),iA 0,.v (.slice none 0 0),.v (.slice none 0 0)]])) (ab9 []) fun G=>b6 (j9 G (v8 2 (rg 5) (ah0 b vs ars bd (j+1+1) al al)) [0,1,2,3,4,6,7,24] [ad1 b vs ars j,dY b,dI vs,dI ars,dT bd,at4,.box [iA (nm b j N6),iA (pk b (j+1) (vs.length:Int)),iA 0,iA 0,.v (.slice none 0 0),iA (z3 b vs.length ars.length (j+1+1)).fst.kind,iA (z3 b vs.length ars.length (j+1+1)).fst.value,.tref 7,iA 0,.v (.slice none 0 0),.v (.slice none 0 0)],ap4 b vs ars j] [(6,.ptr 5 0),(8,.ptr 6 0)] fun G=>n4 (b6 (wp_seq (j9 G f8 [0,1,2,3,4,5,7] [ad1 b vs ars j,dY b,dI vs,dI ars,dT bd,.box [iA (nm b j N6),iA (pk b (j+1) (vs.length:Int)),iA 0,iA 0,.v (.slice none 0 0),iA (z3 b vs.length ars.length (j+1+1)).fst.kind,iA (z3 b vs.length ars.length (j+1+1)).fst.value,.tref 6,iA 0,.v (.slice none 0 0),.v (.slice none 0 0)],ap4 b vs ars j] [(6,.ptr 5 0)] fun G=>b6 (wp_ret ?_))))))));obtain⟨ρ,G⟩:=G.nilT 7 (.exprs []) [.box [.ref 1,iA (z3 b vs.length ars.length (j+1+1)).snd],dY b,dI vs,dI ars,dT bd,.box [iA (nm b j N6),iA (pk b (j+1) (vs.length:Int)),iA 0,iA 0,.tref 7,iA (z3 b vs.length ars.length (j+1+1)).fst.kind,iA (z3 b vs.length ars.length (j+1+1)).fst.value,.tref 6,iA 0,.v (.slice none 0 0),.v (.slice none 0 0)],.tree (D.exprs (z3 b vs.length ars.length (j+1+1)).fst.kids)] [(6,.ptr 5 0)];obtain⟨ρ,G⟩:=G.nilT 8 (.stmts []) [.box [.ref 1,iA (z3 b vs.length ars.length (j+1+1)).snd],dY b,dI vs,dI ars,dT bd,.box [iA (nm b j N6),iA (pk b (j+1) (vs.length:Int)),iA 0,iA 0,.tref 7,iA (z3 b vs.length ars.length (j+1+1)).fst.kind,iA (z3 b vs.length ars.length (j+1+1)).fst.value,.tref 6,iA 0,.tref 8,.v (.slice none 0 0)],.tree (D.exprs (z3 b vs.length ars.length (j+1+1)).fst.kids),.tree (D.exprs [])] [(6,.ptr 5 0)];obtain⟨ρ,G⟩:=G.nilT 9 (.stmts []) [.box [.ref 1,iA (z3 b vs.length ars.length (j+1+1)).snd],dY b,dI vs,dI ars,dT bd,.box [iA (nm b j N6),iA (pk b (j+1) (vs.length:Int)),iA 0,iA 0,.tref 7,iA (z3 b vs.length ars.length (j+1+1)).fst.kind,iA (z3 b vs.length ars.length (j+1+1)).fst.value,.tref 6,iA 0,.tref 8,.tref 9],.tree (D.exprs (z3 b vs.length ars.length (j+1+1)).fst.kids),.tree (D.exprs []),.tree (D.stmts [])] [(6,.ptr 5 0)];exact Y0 (.agg [iA (nm b j N6),iA (pk b (j+1) (vs.length:Int)),iA 0,iA 0,.tref 7,iA (z3 b vs.length ars.length (j+1+1)).fst.kind,iA (z3 b vs.length ars.length (j+1+1)).fst.value,.tref 6,iA 0,.tref 8,.tref 9]) G [0,1,2,3,4,7,6,8,9] (by show _=AV.ren (nth [0,1,2,3,4,7,6,8,9]) (Y6 b vs ars d j);unfold Y6;have e1:((E0 b vs.length ars.length d j).fst.kind:Int)=(nm b j N6):=(by rw[aj9 al al,b26 al];show(5:Int)=_;omega);rw[e1,aj9 al al,b26 al]<;>rfl) (by show _=mR [0,1,2,3,4,7,6,8,9] (Y5 b vs ars bd d j);unfold Y5;rw[aj9 al al,b26 al]<;>rfl)
     refine j9 G f8 (rg 8) (.box [.ref 1,iA (j+1)]::(W5 b vs ars bd [aW0])) (ab9 []) fun G=>b6 (wp_seq (j9 G (v8 4 [0,1] (C9 b (j+1) ((vs.length:Int)) al al)) (rg 8) (.box [.ref 1,iA (j+1+1)]::(W5 b vs ars bd [bl5 b vs j])) (ab9 []) fun G=>b6 (j9 G (v8 2 (rg 5) (ah0 b vs ars bd (j+1+1) al al)) [0,1,2,3,4,6,7,24] [ad1 b vs ars j,dY b,dI vs,dI ars,dT bd,at4,bl7 b vs ars j,ap4 b vs ars j] [(6,.ptr 5 0),(8,.ptr 6 0)] fun G=>n4 (b6 (wp_seq (j9 G f8 [0,1,2,3,4,5,7] [ad1 b vs ars j,dY b,dI vs,dI ars,dT bd,bl6 b vs ars j,ap4 b vs ars j] [(6,.ptr 5 0)] fun G=>b6 (wp_ret ?_)))))));obtain⟨ρ,G⟩:=G.nilT 7 (.exprs []) (bk6 b vs ars bd j []) [(6,.ptr 5 0)];obtain⟨ρ,G⟩:=G.nilT 8 (.stmts []) (bk7 b vs ars bd j []) [(6,.ptr 5 0)];obtain⟨ρ,G⟩:=G.nilT 9 (.stmts []) (bk8 b vs ars bd j []) [(6,.ptr 5 0)];exact Y0 (.agg [iA 1,iA (pk b (j+1) (vs.length:Int)),iA 0,iA 0,.tref 7,iA (z3 b vs.length ars.length (j+1+1)).fst.kind,iA (z3 b vs.length ars.length (j+1+1)).fst.value,.tref 6,iA 0,.tref 8,.tref 9]) G [0,1,2,3,4,7,6,8,9] (by show _=AV.ren (nth [0,1,2,3,4,7,6,8,9]) (Y6 b vs ars d j);unfold Y6;rw[aj9 al al,a93 al]<;>rfl) (by show _=mR [0,1,2,3,4,7,6,8,9] (Y5 b vs ars bd d j);unfold Y5;rw[aj9 al al,a93 al]<;>rfl)
    have q2:=eq_of_beq h2;refine l6 G (K0 (fc h2 fz) [(3,0),(4,0),(1005,0)]) [(79,bA (decide (n>1)))] fun G=>b6 (rcD G (fun h4 q4=>?_) fun h4 q4=>?_)
    ·
     refine wp_seq (wp_seq (E8 G f8 (ab9 [(15,bA (nm b j N6 !=5))]) fun G=>b6 ?_));cases h5:(nm b j N6 !=5)
     · have q5:=bne_eq_false_iff_eq.1 h5;exact False.elim al
     have q5:=bne_iff_ne.1 h5;refine rT G _ h5 (j9 G f8 (rg 8) (.box [.ref 1,iA (j+1)]::(W5 b vs ars bd [aW0])) (ab9 []) fun G=>b6 (wp_seq (j9 G (v8 4 [0,1] (C9 b (j+1) ((vs.length:Int)) al al)) (rg 8) (.box [.ref 1,iA (j+1+1)]::(W5 b vs ars bd [bl5 b vs j])) (ab9 []) fun G=>b6 (j9 G (v8 2 (rg 5) (ah0 b vs ars bd (j+1+1) al al)) [0,1,2,3,4,6,7,24] [ad1 b vs ars j,dY b,dI vs,dI ars,dT bd,at4,bl7 b vs ars j,ap4 b vs ars j] [(6,.ptr 5 0),(8,.ptr 6 0)] fun G=>n4 (b6 (wp_seq (j9 G f8 [0,1,2,3,4,5,7] [ad1 b vs ars j,dY b,dI vs,dI ars,dT bd,bl6 b vs ars j,ap4 b vs ars j] [(6,.ptr 5 0)] fun G=>b6 (wp_ret ?_))))))));obtain⟨ρ,G⟩:=G.nilT 7 (.exprs []) (bk6 b vs ars bd j []) [(6,.ptr 5 0)];obtain⟨ρ,G⟩:=G.nilT 8 (.stmts []) (bk7 b vs ars bd j []) [(6,.ptr 5 0)];obtain⟨ρ,G⟩:=G.nilT 9 (.stmts []) (bk8 b vs ars bd j []) [(6,.ptr 5 0)];exact Y0 (.agg [iA 1,iA (pk b (j+1) (vs.length:Int)),iA 0,iA 0,.tref 7,iA (z3 b vs.length ars.length (j+1+1)).fst.kind,iA (z3 b vs.length ars.length (j+1+1)).fst.value,.tref 6,iA 0,.tref 8,.tref 9]) G [0,1,2,3,4,7,6,8,9] (by show _=AV.ren (nth [0,1,2,3,4,7,6,8,9]) (Y6 b vs ars d j);unfold Y6;rw[aj9 al al,a93 al]<;>rfl) (by show _=mR [0,1,2,3,4,7,6,8,9] (Y5 b vs ars bd d j);unfold Y5;rw[aj9 al al,a93 al]<;>rfl)
    refine wp_seq (j9 G (v8 2 [0,1,16] (j7.lend (S5 b (j+1) rcL (by simp[h0,h1,h2,h4]) al al) [.no,.no,.row 3])) (rg 8) (.box [.ref 1,iA (j+1+1)]::(W5 b vs ars bd [.box [iA (nm b j N6),iA 0,iA 0,iA 0,.v (.slice none 0 0),iA 0,iA 0,.v (.slice none 0 0),iA (nm b (j+1) rcL),.v (.slice none 0 0),.v (.slice none 0 0)]])) (at2 n [(8,.ptr 7 0)]) fun G=>b6 (R3 G (H5 (v7 6 [0,1,48] (j7.lend (S5 b (j+1+1) rbL (by simp[h0,h1,h2,h4]) al al) [.no,.no,.row 3]) (v7 7 (rg 5) (ih (j+1+1+1) (n-1) (nm b (j+1+1) rbL) al al al al al al) H4)) fz []) [0,0,0,4,0,0,48,127,255,511] [0,1,2,3,4,6,7,64] (a20 b vs ars d j [dT bd,at4,.box [iA (nm b j N6),iA 0,iA 0,iA 0,.v (.slice none 0 0),iA 0,iA 0,.v (.slice none 0 0),iA (nm b (j+1) rcL),.tref 7,.v (.slice none 0 0)],.tree (D.stmts (J4 (E0 b vs.length ars.length (d-1)) (nm b (j+1+1) rbL).toNat (j+1+1+1)).fst)]) [(6,.ptr 5 0),(8,.ptr 6 0)] [wO (n-1)] (o1 al) fun G=>n4 (b6 (wp_seq (j9 G f8 [0,1,2,3,4,5,7] (a20 b vs ars d j [dT bd,.box [iA (nm b j N6),iA 0,iA 0,iA 0,.v (.slice none 0 0),iA 0,iA 0,.v (.slice none 0 0),iA (nm b (j+1) rcL),.tref 6,.v (.slice none 0 0)],.tree (D.stmts (J4 (E0 b vs.length ars.length (d-1)) (nm b (j+1+1) rbL).toNat (j+1+1+1)).fst)]) [(6,.ptr 5 0)] fun G=>b6 (wp_ret ?_))))));obtain⟨ρ,G⟩:=G.nilT 7 (.exprs []) (a20 b vs ars d j [dT bd,.box [iA (nm b j N6),iA 0,iA 0,iA 0,.tref 7,iA 0,iA 0,.v (.slice none 0 0),iA (nm b (j+1) rcL),.tref 6,.v (.slice none 0 0)],.tree (D.stmts (J4 (E0 b vs.length ars.length (d-1)) (nm b (j+1+1) rbL).toNat (j+1+1+1)).fst)]) [(6,.ptr 5 0)];obtain⟨ρ,G⟩:=G.nilT 8 (.exprs []) (a20 b vs ars d j [dT bd,.box [iA (nm b j N6),iA 0,iA 0,iA 0,.tref 7,iA 0,iA 0,.tref 8,iA (nm b (j+1) rcL),.tref 6,.v (.slice none 0 0)],.tree (D.stmts (J4 (E0 b vs.length ars.length (d-1)) (nm b (j+1+1) rbL).toNat (j+1+1+1)).fst),.tree (D.exprs [])]) [(6,.ptr 5 0)];obtain⟨ρ,G⟩:=G.nilT 9 (.stmts []) (a20 b vs ars d j [dT bd,.box [iA (nm b j N6),iA 0,iA 0,iA 0,.tref 7,iA 0,iA 0,.tref 8,iA (nm b (j+1) rcL),.tref 6,.tref 9],.tree (D.stmts (J4 (E0 b vs.length ars.length (d-1)) (nm b (j+1+1) rbL).toNat (j+1+1+1)).fst),.tree (D.exprs []),.tree (D.exprs [])]) [(6,.ptr 5 0)];exact Y0 (.agg [iA (nm b j N6),iA 0,iA 0,iA 0,.tref 7,iA 0,iA 0,.tref 8,iA (nm b (j+1) rcL),.tref 6,.tref 9]) G [0,1,2,3,4,7,8,6,9] (by show _=AV.ren (nth [0,1,2,3,4,7,8,6,9]) (Y6 b vs ars d j);unfold Y6;have e1:((E0 b vs.length ars.length d j).fst.kind:Int)=(nm b j N6):=(by rw[bd2 al al];show(4:Int)=_;omega);rw[e1,bd2 al al]<;>rfl) (by show _=mR [0,1,2,3,4,7,8,6,9] (Y5 b vs ars bd d j);unfold Y5;rw[bd2 al al]<;>rfl)
   have q1:=eq_of_beq h1;refine E8 G (K0 (fc h1 fz) [(3,0),(4,0),(1005,0)]) (at2 n [(7,iA (nm b j N6)),(8,.ptr 7 0),(50,bA (decide (n>1)))]) fun G=>b6 (rcD G (fun h6 q6=>?_) fun h6 q6=>?_)
   ·
    refine wp_seq ?_;cases h7:(nm b j N6==4)
    ·
     have q7:=ne_of_beq_false h7;refine l6 G (K0 (fc h7 fz) [(3,0),(4,0),(1005,0)]) [(79,bA false)] fun G=>b6 (rF G false aj (wp_seq (wp_seq (E8 G f8 (ab9 [(15,bA (nm b j N6 !=5))]) fun G=>b6 ?_))));cases h8:(nm b j N6 !=5)
     · have q8:=bne_eq_false_iff_eq.1 h8;exact False.elim al
     have q8:=bne_iff_ne.1 h8;refine rT G _ h8 (j9 G f8 (rg 8) (.box [.ref 1,iA (j+1)]::(W5 b vs ars bd [aW0])) (ab9 []) fun G=>b6 (wp_seq (j9 G (v8 4 [0,1] (C9 b (j+1) ((vs.length:Int)) al al)) (rg 8) (.box [.ref 1,iA (j+1+1)]::(W5 b vs ars bd [bl5 b vs j])) (ab9 []) fun G=>b6 (j9 G (v8 2 (rg 5) (ah0 b vs ars bd (j+1+1) al al)) [0,1,2,3,4,6,7,24] [ad1 b vs ars j,dY b,dI vs,dI ars,dT bd,at4,bl7 b vs ars j,ap4 b vs ars j] [(6,.ptr 5 0),(8,.ptr 6 0)] fun G=>n4 (b6 (wp_seq (j9 G f8 [0,1,2,3,4,5,7] [ad1 b vs ars j,dY b,dI vs,dI ars,dT bd,bl6 b vs ars j,ap4 b vs ars j] [(6,.ptr 5 0)] fun G=>b6 (wp_ret ?_))))))));obtain⟨ρ,G⟩:=G.nilT 7 (.exprs []) (bk6 b vs ars bd j []) [(6,.ptr 5 0)];obtain⟨ρ,G⟩:=G.nilT 8 (.stmts []) (bk7 b vs ars bd j []) [(6,.ptr 5 0)];obtain⟨ρ,G⟩:=G.nilT 9 (.stmts []) (bk8 b vs ars bd j []) [(6,.ptr 5 0)];exact Y0 (.agg [iA 1,iA (pk b (j+1) (vs.length:Int)),iA 0,iA 0,.tref 7,iA (z3 b vs.length ars.length (j+1+1)).fst.kind,iA (z3 b vs.length ars.length (j+1+1)).fst.value,.tref 6,iA 0,.tref 8,.tref 9]) G [0,1,2,3,4,7,6,8,9] (by show _=AV.ren (nth [0,1,2,3,4,7,6,8,9]) (Y6 b vs ars d j);unfold Y6;rw[aj9 al al,a93 al]<;>rfl) (by show _=mR [0,1,2,3,4,7,6,8,9] (Y5 b vs ars bd d j);unfold Y5;rw[aj9 al al,a93 al]<;>rfl)
    have q7:=eq_of_beq h7;exact False.elim al
   refine wp_seq (j9 G (v8 2 (rg 5) (ah0 b vs ars bd (j+1) al al)) [0,1,2,3,4,5,6,7,24] (.box [.ref 1,iA (z3 b vs.length ars.length (j+1)).snd]::(W5 b vs ars bd [.box [iA (nm b j N6),iA 0,iA 0,iA 0,.v (.slice none 0 0),iA (z3 b vs.length ars.length (j+1)).fst.kind,iA (z3 b vs.length ars.length (j+1)).fst.value,.tref 8,iA 0,.v (.slice none 0 0),.v (.slice none 0 0)],.tree (D.exprs (z3 b vs.length ars.length (j+1)).fst.kids)])) (at2 n [(8,.ptr 7 0)]) fun G=>b6 (wp_seq (R3 G (H5 (v7 6 [0,1,49] (j7.lend (S5 b ((z3 b vs.length ars.length (j+1)).snd) ibL (by simp[h0,h1,h6]) al al) [.no,.no,.row 3]) (v7 7 (rg 5) (ih ((z3 b vs.length ars.length (j+1)).snd+1) (n-1) (nm b (z3 b vs.length ars.length (j+1)).snd ibL) al al al al al al) H4)) fz []) [0,0,0,4,0,0,48,127,255,511] [0,1,2,3,4,5,6,7,8,65] (.box [.ref 1,iA (aR1 b vs ars d j).snd]::(W5 b vs ars bd [.box [iA (nm b j N6),iA 0,iA 0,iA 0,.v (.slice none 0 0),iA (z3 b vs.length ars.length (j+1)).fst.kind,iA (z3 b vs.length ars.length (j+1)).fst.value,.tref 8,iA 0,.tref 9,.v (.slice none 0 0)],.tree (D.exprs (z3 b vs.length ars.length (j+1)).fst.kids),.tree (D.stmts (aR1 b vs ars d j).fst)])) (at2 n [(8,.ptr 7 0)]) [wO (n-1)] (o1 al) fun G=>b6 (R3 G (H5 (v7 6 [0,1,50] (j7.lend (S5 b ((J4 (E0 b vs.length ars.length (d-1)) (nm b (z3 b vs.length ars.length (j+1)).snd ibL).toNat ((z3 b vs.length ars.length (j+1)).snd+1)).snd) ieL (by simp[h0,h1,h6]) al al) [.no,.no,.row 3]) (v7 7 (rg 5) (ih ((J4 (E0 b vs.length ars.length (d-1)) (nm b (z3 b vs.length ars.length (j+1)).snd ibL).toNat ((z3 b vs.length ars.length (j+1)).snd+1)).snd+1) (n-1) (nm b (J4 (E0 b vs.length ars.length (d-1)) (nm b (z3 b vs.length ars.length (j+1)).snd ibL).toNat ((z3 b vs.length ars.length (j+1)).snd+1)).snd ieL) al al al al al al) H4)) fz []) [0,0,0,4,0,0,48,127,255,511] [0,1,2,3,4,6,7,8,9,66] [.box [.ref 1,iA (bl8 b vs ars d j).snd],dY b,dI vs,dI ars,dT bd,at4,.box [iA (nm b j N6),iA 0,iA 0,iA 0,.v (.slice none 0 0),iA (z3 b vs.length ars.length (j+1)).fst.kind,iA (z3 b vs.length ars.length (j+1)).fst.value,.tref 7,iA 0,.tref 8,.tref 9],.tree (D.exprs (z3 b vs.length ars.length (j+1)).fst.kids),.tree (D.stmts (aR1 b vs ars d j).fst),.tree (D.stmts (bl8 b vs ars d j).fst)] [(6,.ptr 5 0),(8,.ptr 6 0)] [wO (n-1)] (o1 al) fun G=>n4 (b6 (wp_seq (j9 G f8 [0,1,2,3,4,5,7,8,9] [.box [.ref 1,iA (bl8 b vs ars d j).snd],dY b,dI vs,dI ars,dT bd,.box [iA (nm b j N6),iA 0,iA 0,iA 0,.v (.slice none 0 0),iA (z3 b vs.length ars.length (j+1)).fst.kind,iA (z3 b vs.length ars.length (j+1)).fst.value,.tref 6,iA 0,.tref 7,.tref 8],.tree (D.exprs (z3 b vs.length ars.length (j+1)).fst.kids),.tree (D.stmts (aR1 b vs ars d j).fst),.tree (D.stmts (bl8 b vs ars d j).fst)] [(6,.ptr 5 0)] fun G=>b6 (wp_ret ?_))))))));obtain⟨ρ,G⟩:=G.nilT 9 (.exprs []) [.box [.ref 1,iA (J4 (E0 b vs.length ars.length (d-1)) (nm b (J4 (E0 b vs.length ars.length (d-1)) (nm b (z3 b vs.length ars.length (j+1)).snd ibL).toNat ((z3 b vs.length ars.length (j+1)).snd+1)).snd ieL).toNat ((J4 (E0 b vs.length ars.length (d-1)) (nm b (z3 b vs.length ars.length (j+1)).snd ibL).toNat ((z3 b vs.length ars.length (j+1)).snd+1)).snd+1)).snd],dY b,dI vs,dI ars,dT bd,.box [iA (nm b j N6),iA 0,iA 0,iA 0,.tref 9,iA (z3 b vs.length ars.length (j+1)).fst.kind,iA (z3 b vs.length ars.length (j+1)).fst.value,.tref 6,iA 0,.tref 7,.tref 8],.tree (D.exprs (z3 b vs.length ars.length (j+1)).fst.kids),.tree (D.stmts (J4 (E0 b vs.length ars.length (d-1)) (nm b (z3 b vs.length ars.length (j+1)).snd ibL).toNat ((z3 b vs.length ars.length (j+1)).snd+1)).fst),.tree (D.stmts (J4 (E0 b vs.length ars.length (d-1)) (nm b (J4 (E0 b vs.length ars.length (d-1)) (nm b (z3 b vs.length ars.length (j+1)).snd ibL).toNat ((z3 b vs.length ars.length (j+1)).snd+1)).snd ieL).toNat ((J4 (E0 b vs.length ars.length (d-1)) (nm b (z3 b vs.length ars.length (j+1)).snd ibL).toNat ((z3 b vs.length ars.length (j+1)).snd+1)).snd+1)).fst)] [(6,.ptr 5 0)]
   exact Y0 (.agg [iA (nm b j N6),iA 0,iA 0,iA 0,.tref 9,iA (z3 b vs.length ars.length (j+1)).fst.kind,iA (z3 b vs.length ars.length (j+1)).fst.value,.tref 6,iA 0,.tref 7,.tref 8]) G [0,1,2,3,4,9,6,7,8] (by show _=AV.ren (nth [0,1,2,3,4,9,6,7,8]) (Y6 b vs ars d j);unfold Y6;have e1:((E0 b vs.length ars.length d j).fst.kind:Int)=(nm b j N6):=(by rw[bd3 al al];show(3:Int)=_;omega);rw[e1,bd3 al al]<;>rfl) (by show _=mR [0,1,2,3,4,9,6,7,8] (Y5 b vs ars bd d j);unfold Y5;rw[bd3 al al]<;>rfl)
  have q0:=eq_of_beq h0;refine E8 G (K0 (fc h0 fz) (us [(3,6,0),(1007,1007,0)])) (at2 n [(7,iA (nm b j N6)),(8,.ptr 7 0),(27,bA (decide ((ars.length:Int)>0)))]) fun G=>b6 (rcD G (fun h9 q9=>?_) fun h9 q9=>?_)
  ·
   refine wp_seq ?_;cases h10:(nm b j N6==3)
   ·
    have q10:=ne_of_beq_false h10;refine E8 G (K0 (fc h10 fz) [(3,0),(4,0),(1005,0)]) (at2 n [(7,iA (nm b j N6)),(8,.ptr 7 0),(50,bA false)]) fun G=>b6 (rF G false aj (wp_seq ?_));cases h11:(nm b j N6==4)
    ·
     have q11:=ne_of_beq_false h11;refine l6 G (K0 (fc h11 fz) [(3,0),(4,0),(1005,0)]) [(79,bA false)] fun G=>b6 (rF G false aj (wp_seq (wp_seq (E8 G f8 (ab9 [(15,bA (nm b j N6 !=5))]) fun G=>b6 ?_))));cases h12:(nm b j N6 !=5)
     · have q12:=bne_eq_false_iff_eq.1 h12;exact False.elim al
     have q12:=bne_iff_ne.1 h12;refine rT G _ h12 (j9 G f8 (rg 8) (.box [.ref 1,iA (j+1)]::(W5 b vs ars bd [aW0])) (ab9 []) fun G=>b6 (wp_seq (j9 G (v8 4 [0,1] (C9 b (j+1) ((vs.length:Int)) al al)) (rg 8) (.box [.ref 1,iA (j+1+1)]::(W5 b vs ars bd [bl5 b vs j])) (ab9 []) fun G=>b6 (j9 G (v8 2 (rg 5) (ah0 b vs ars bd (j+1+1) al al)) [0,1,2,3,4,6,7,24] [ad1 b vs ars j,dY b,dI vs,dI ars,dT bd,at4,bl7 b vs ars j,ap4 b vs ars j] [(6,.ptr 5 0),(8,.ptr 6 0)] fun G=>n4 (b6 (wp_seq (j9 G f8 [0,1,2,3,4,5,7] [ad1 b vs ars j,dY b,dI vs,dI ars,dT bd,bl6 b vs ars j,ap4 b vs ars j] [(6,.ptr 5 0)] fun G=>b6 (wp_ret ?_))))))));obtain⟨ρ,G⟩:=G.nilT 7 (.exprs []) (bk6 b vs ars bd j []) [(6,.ptr 5 0)];obtain⟨ρ,G⟩:=G.nilT 8 (.stmts []) (bk7 b vs ars bd j []) [(6,.ptr 5 0)];obtain⟨ρ,G⟩:=G.nilT 9 (.stmts []) (bk8 b vs ars bd j []) [(6,.ptr 5 0)];exact Y0 (.agg [iA 1,iA (pk b (j+1) (vs.length:Int)),iA 0,iA 0,.tref 7,iA (z3 b vs.length ars.length (j+1+1)).fst.kind,iA (z3 b vs.length ars.length (j+1+1)).fst.value,.tref 6,iA 0,.tref 8,.tref 9]) G [0,1,2,3,4,7,6,8,9] (by show _=AV.ren (nth [0,1,2,3,4,7,6,8,9]) (Y6 b vs ars d j);unfold Y6;rw[aj9 al al,a93 al]<;>rfl) (by show _=mR [0,1,2,3,4,7,6,8,9] (Y5 b vs ars bd d j);unfold Y5;rw[aj9 al al,a93 al]<;>rfl)
    have q11:=eq_of_beq h11;exact False.elim al
   have q10:=eq_of_beq h10;exact False.elim al
  refine wp_seq (j9 G (v8 4 [0,1] (C9 b (j+1) ((ars.length:Int)) al al)) (rg 8) (.box [.ref 1,iA (j+1+1)]::(W5 b vs ars bd [.box [iA (nm b j N6),iA (pk b (j+1) (ars.length:Int)),iA 0,iA 0,.v (.slice none 0 0),iA 0,iA 0,.v (.slice none 0 0),iA 0,.v (.slice none 0 0),.v (.slice none 0 0)]])) (ab9 []) fun G=>b6 (wp_seq (j9 G (v8 2 (rg 5) (aA0 b (j+1+1) vs ars bd al al)) [0,1,2,3,4,5,6,7,24] (.box [.ref 1,iA (j+1+1+2)]::(W5 b vs ars bd [.box [iA (nm b j N6),iA (pk b (j+1) (ars.length:Int)),iA (r7 b (vs.length:Int) (j+1+1)).kind,iA (r7 b (vs.length:Int) (j+1+1)).value,.tref 8,iA 0,iA 0,.v (.slice none 0 0),iA 0,.v (.slice none 0 0),.v (.slice none 0 0)],.tree (D.exprs (r7 b (vs.length:Int) (j+1+1)).kids)])) (ab9 []) fun G=>b6 (j9 G (v8 2 (rg 5) (ah0 b vs ars bd (j+1+1+2) al al)) [0,1,2,3,4,6,7,8,25] (.box [.ref 1,iA (z3 b vs.length ars.length (j+1+1+2)).snd]::dY b::dI vs::dI ars::dT bd::at4::.box [iA (nm b j N6),iA (pk b (j+1) (ars.length:Int)),iA (r7 b (vs.length:Int) (j+1+1)).kind,iA (r7 b (vs.length:Int) (j+1+1)).value,.tref 7,iA (z3 b vs.length ars.length (j+1+1+2)).fst.kind,iA (z3 b vs.length ars.length (j+1+1+2)).fst.value,.tref 8,iA 0,.v (.slice none 0 0),.v (.slice none 0 0)]::(bk5 b vs ars j [])) [(6,.ptr 5 0),(8,.ptr 6 0)] fun G=>n4 (b6 (wp_seq (j9 G f8 [0,1,2,3,4,5,7,8] (.box [.ref 1,iA (z3 b vs.length ars.length (j+1+1+2)).snd]::dY b::dI vs::dI ars::dT bd::.box [iA (nm b j N6),iA (pk b (j+1) (ars.length:Int)),iA (r7 b (vs.length:Int) (j+1+1)).kind,iA (r7 b (vs.length:Int) (j+1+1)).value,.tref 6,iA (z3 b vs.length ars.length (j+1+1+2)).fst.kind,iA (z3 b vs.length ars.length (j+1+1+2)).fst.value,.tref 7,iA 0,.v (.slice none 0 0),.v (.slice none 0 0)]::(bk5 b vs ars j [])) [(6,.ptr 5 0)] fun G=>b6 (wp_ret ?_))))))));obtain⟨ρ,G⟩:=G.nilT 8 (.stmts []) (.box [.ref 1,iA (z3 b vs.length ars.length (j+1+1+2)).snd]::dY b::dI vs::dI ars::dT bd::.box [iA (nm b j N6),iA (pk b (j+1) (ars.length:Int)),iA (r7 b (vs.length:Int) (j+1+1)).kind,iA (r7 b (vs.length:Int) (j+1+1)).value,.tref 6,iA (z3 b vs.length ars.length (j+1+1+2)).fst.kind,iA (z3 b vs.length ars.length (j+1+1+2)).fst.value,.tref 7,iA 0,.tref 8,.v (.slice none 0 0)]::(bk5 b vs ars j [])) [(6,.ptr 5 0)];obtain⟨ρ,G⟩:=G.nilT 9 (.stmts []) (.box [.ref 1,iA (z3 b vs.length ars.length (j+1+1+2)).snd]::dY b::dI vs::dI ars::dT bd::.box [iA (nm b j N6),iA (pk b (j+1) (ars.length:Int)),iA (r7 b (vs.length:Int) (j+1+1)).kind,iA (r7 b (vs.length:Int) (j+1+1)).value,.tref 6,iA (z3 b vs.length ars.length (j+1+1+2)).fst.kind,iA (z3 b vs.length ars.length (j+1+1+2)).fst.value,.tref 7,iA 0,.tref 8,.tref 9]::(bk5 b vs ars j [.tree (D.stmts [])])) [(6,.ptr 5 0)]
  exact Y0 (.agg [iA (nm b j N6),iA (pk b (j+1) (ars.length:Int)),iA (r7 b (vs.length:Int) (j+1+1)).kind,iA (r7 b (vs.length:Int) (j+1+1)).value,.tref 6,iA (z3 b vs.length ars.length (j+1+1+2)).fst.kind,iA (z3 b vs.length ars.length (j+1+1+2)).fst.value,.tref 7,iA 0,.tref 8,.tref 9]) G [0,1,2,3,4,6,7,8,9] (by show _=AV.ren (nth [0,1,2,3,4,6,7,8,9]) (Y6 b vs ars d j);unfold Y6;have e1:((E0 b vs.length ars.length d j).fst.kind:Int)=(nm b j N6):=(by rw[bz9 al al];show(2:Int)=_;omega);rw[e1,bz9 al al]<;>rfl) (by show _=mR [0,1,2,3,4,6,7,8,9] (Y5 b vs ars bd d j);unfold Y5;rw[bz9 al al]<;>rfl)
theorem ba5(b:List UInt8)(vs ars:List Int)(bd:List c5)(d:Nat)(h:∀(j n:Int),n=d->0<=j->j+cS d<=600000000->j7.ok Tryz.prog (dsC b vs ars bd d j n))(m:Nat)(j n c B:Int)(hn:n=d)(hm:c=m)(hm2:m<=4)(hB:(m:Int)*cS d<=B)(r0:0<=j)(r1:j+B<=600000000):j7.ok Tryz.prog (dbC b vs ars bd d m j n c):=
 bN7 b vs ars bd d m h j n c hn hm hm2 B hB r0 r1
theorem bI2(b:List UInt8)(vs ars:List Int)(bd:List c5):∀(d:Nat),d<=3->∀(j n:Int),n=d->0<=j->j+cS d<=600000000->j7.ok Tryz.prog (dsC b vs ars bd d j n)
 |0,hd,j,n,hn,r0,r1=>bA6 b vs ars bd 0 al (fun j n c h=>absurd h al) j n hn r0 r1
 |d+1,hd,j,n,hn,r0,r1=>bA6 b vs ars bd (d+1) hd (fun j n c h hn h0 h2 r0 r1=>ba5 b vs ars bd d (bI2 b vs ars bd d al) c.toNat j n c (2*cS d) al al al (ca1 h0 h2 (Int.le_trans ak (aC7 d))) r0 (by simpa using r1)) j n hn r0 r1
theorem ce9:cS 3=34170:=ak
theorem b40(b:List UInt8)(vs ars:List Int)(bd:List c5)(j n c:Int)(hn:n=3)(h0:0<=c)(h4:c<=4)(r0:0<=j)(r1:j<=100000000):j7.ok Tryz.prog (dbC b vs ars bd 3 c.toNat j n c):=
 ba5 b vs ars bd 3 (bI2 b vs ars bd 3 al) c.toNat j n c (4*cS 3) al al al (cj6 h0 h4 (by rw[ce9];decide)) r0 (by rw[ce9];omega)
abbrev pgC(b:List UInt8)(j:Int):j7:=⟨86,[.ptr 0 0],[.box [.ref 1,iA j],dY b],[.box [.ref 1,iA (Q6 b j).2],dY b]++oP (N7 b j),oA 2⟩
theorem bo5{b:List UInt8}{l:List Int}{n i p:Int}(h:i>0)(h2:i<=n):nsD b l (n-(i-1)).toNat p=nsD b l (n-i).toNat p++[nm b (p+(n-i)) l]:=by
 rw[show(n-(i-1)).toNat=(n-i).toNat+1 by omega,bE2,show(((n-i).toNat:Nat):Int)=n-i by omega]
theorem bo4{b:List UInt8}{l:List Int}{n p:Int}:nsD b l (n-n).toNat p=[]:=by rw[Int.sub_self];rfl
theorem ai0(vs ars:List Int)(bd:List c5)(hb:j5 bd<=1048576):j7.ok Tryz.prog (T7 92 [pA 0] [dI vs,dI ars,dT bd] (bA (l9 ⟨vs,ars,bd⟩))):=S6 ⟨vs,ars,bd⟩ hb
theorem cj3{b:List UInt8}{j:Int}(h:l9 ⟨vsD b j,asD b j,(J4 (E0 b (vsD b j).length (asD b j).length 3) (nm b (kp2 b j) nbL).toNat (kp2 b j+1)).1⟩=true):N7 b j=⟨vsD b j,asD b j,(Q6 b j).1⟩:=if_pos h
theorem cj2{b:List UInt8}{j:Int}(h:l9 ⟨vsD b j,asD b j,(J4 (E0 b (vsD b j).length (asD b j).length 3) (nm b (kp2 b j) nbL).toNat (kp2 b j+1)).1⟩=false):N7 b j=fbP:=if_neg (by intro h2;have h3:l9 ⟨vsD b j,asD b j,(J4 (E0 b (vsD b j).length (asD b j).length 3) (nm b (kp2 b j) nbL).toNat (kp2 b j+1)).1⟩=true:=h2;rw[h]at h3;cases h3)
theorem b91(b:List UInt8)(j:Int):j+1+(nm b j nvL-0)=L0 b j:=by unfold L0;omega
theorem b90(b:List UInt8)(j:Int):nsD b viL (nm b j nvL-0).toNat (j+1)=vsD b j:=by unfold vsD;rw[Int.sub_zero]
theorem b89(b:List UInt8)(j:Int):L0 b j+1+(nm b (L0 b j) naL-0)=kp2 b j:=by unfold kp2;omega
theorem b88(b:List UInt8)(j:Int):nsD b aiL (nm b (L0 b j) naL-0).toNat (L0 b j+1)=asD b j:=by unfold asD;rw[Int.sub_zero]
abbrev aA9(b:List UInt8)(j:Int):=J4 (E0 b (vsD b j).length (asD b j).length 3) (nm b (kp2 b j) nbL).toNat (kp2 b j+1)
abbrev bl4(b:List UInt8)(j:Int):List It:=[.box [.ref 1,iA (Q6 b j).snd],dY b,.row 3 (D.ints (N7 b j).vars),.row 3 (D.ints (N7 b j).arrays),.tree (D.stmts (N7 b j).body)]
abbrev W6:It:=.box [.v (.slice none 0 0),.v (.slice none 0 0),.v (.slice none 0 0)]
abbrev a26:It:=.box [.ref 4,.v (.slice none 0 0),.v (.slice none 0 0)]
abbrev by2:It:=.tree (D.stmts [c5.mk 1 1 (c6.mk 0 0 []) (c6.mk 2 0 []) 0 [] []])
theorem aC6(b:List UInt8)(j:Int)(r0:0<=j)(r1:j<=10000000):j7.ok Tryz.prog (pgC b j):=by
  refine H9 52 Tryz.func86 [.box [.ref 1,iA j],dY b] [(0,.ptr 0 0)] fun G=>?_;have hnv:=b02 b r0 al;have hk1:=bF4 b r0 r1;have hk2:=bp4 b r0 r1;have hna:=b05 b (k:=L0 b j) al al;have hnb:=b99 b (k:=kp2 b j) al al;have hvl:=by7 b r0 r1;have hal:=bK9 b r0 r1;have hbd:=br7 b r0 r1;have hbs:j5 (J4 (E0 b (vsD b j).length (asD b j).length 3) (nm b (kp2 b j) nbL).toNat (kp2 b j+1)).1<=1048576:=cp4 hbd.2.2 al;refine wp_seq (j9 G f8 [0,1,2] [.box [.ref 1,iA j],dY b,W6] [(0,.ptr 0 0),(2,.ptr 2 0)] fun G=>b6 (wp_seq (j9 G f8 [0,1,2,11] [.box [.ref 1,iA j],dY b,W6,W6] [(0,.ptr 0 0),(2,.ptr 2 0),(3,.ptr 3 0)] fun G=>b6 (wp_seq (wp_seq (j9 G (v8 2 [0,1,12] (j7.lend (S5 b j nvL (List.cons_ne_nil _ _) ai al) [.no,.no,.row 3])) (rg 4) [.box [.ref 1,iA (j+1)],dY b,W6,W6] [(0,.ptr 0 0),(2,.ptr 2 0),(3,.ptr 3 0),(4,iA (nm b j nvL))] fun G=>b6 (wp_block ?_)))))));have Gx:=G.nil 4 3 (.ints []) 1 [.box [.ref 1,iA (j+1)],dY b,W6,a26] [(0,.ptr 0 0),(2,.ptr 2 0),(3,.ptr 3 0),(4,iA (nm b j nvL))];clear G;obtain⟨ρ,G⟩:=Gx;replace G:=v9.at G [.box [.ref 1,iA (j+1)],dY b,W6,a26,.row 3 (D.ints [])] [(0,.ptr 0 0),(2,.ptr 2 0),(3,.ptr 3 0),(4,iA (nm b j nvL))];replace G:=G.as [.box [.ref 1,iA (j+1+(nm b j nvL-nm b j nvL))],dY b,.box [.v (.slice none 0 0),.v (.slice none 0 0),.v (.slice none 0 0)],.box [.ref 4,.v (.slice none 0 0),.v (.slice none 0 0)],.row 3 (D.ints (nsD b viL (nm b j nvL-nm b j nvL).toNat (j+1)))] [(0,.ptr 0 0),(2,.ptr 2 0),(3,.ptr 3 0),(4,iA (nm b j nvL))] (by have e1:(j+1+(nm b j nvL-nm b j nvL):Int)=(j+1):=al;have e2:(nsD b viL (nm b j nvL-nm b j nvL).toNat (j+1):List Int)=([]):=bo4;(first|rw[e1,e2]|simp only[e1,e2])<;>rfl) aj;refine t9 (κ:=Int) (fun i=>0<=i/\i<=nm b j nvL) (fun i=>i.toNat) (fun i=>[.box [.ref 1,iA (j+1+(nm b j nvL-i))],dY b,.box [.v (.slice none 0 0),.v (.slice none 0 0),.v (.slice none 0 0)],.box [.ref 4,.v (.slice none 0 0),.v (.slice none 0 0)],.row 3 (.ints (nsD b viL (nm b j nvL-i).toNat (j+1)))]) (fun i=>[(0,.ptr 0 0),(2,.ptr 2 0),(3,.ptr 3 0),(4,iA i)]) (nm b j nvL) al (v9.at G _ _) ?_;clear G;intro i ρ a w hp G;replace G:=v9.at G [.box [.ref 1,iA (j+1+(nm b j nvL-i))],dY b,W6,a26,.row 3 (D.ints (nsD b viL (nm b j nvL-i).toNat (j+1)))] [(0,.ptr 0 0),(2,.ptr 2 0),(3,.ptr 3 0),(4,iA i)];have hlen:(nsD b viL (nm b j nvL-i).toNat (j+1)).length=(nm b j nvL-i).toNat:=an3 _ _ _ _;refine wp_seq (wp_seq (E8 G f8 [(0,.ptr 0 0),(2,.ptr 2 0),(3,.ptr 3 0),(4,iA i),(11,bA (decide (i>0)))] fun G=>b6 ?_));cases h0:(decide (i>0))
  ·
   have q0:=dFf h0
   obtain rfl:i=0:=al
   rw[b91,b90]at G;refine rF G false aj (wp_exit (t7 (t7 (t5 (b6 (wp_seq (wp_seq (j9 G (v8 2 [0,1,13] (j7.lend (S5 b (L0 b j) naL (by simp[h0]) al al) [.no,.no,.row 3])) (rg 5) [.box [.ref 1,iA (L0 b j+1)],dY b,W6,a26,.row 3 (D.ints (vsD b j))] [(0,.ptr 0 0),(2,.ptr 2 0),(3,.ptr 3 0),(5,iA (nm b (L0 b j) naL))] fun G=>b6 (wp_block ?_)))))))));have Gx:=G.nil 5 3 (.ints []) 1 [.box [.ref 1,iA (L0 b j+1)],dY b,W6,.box [.ref 4,.ref 5,.v (.slice none 0 0)],.row 3 (D.ints (vsD b j))] [(0,.ptr 0 0),(2,.ptr 2 0),(3,.ptr 3 0),(5,iA (nm b (L0 b j) naL))];clear G;obtain⟨ρ,G⟩:=Gx;replace G:=v9.at G [.box [.ref 1,iA (L0 b j+1)],dY b,W6,.box [.ref 4,.ref 5,.v (.slice none 0 0)],.row 3 (D.ints (vsD b j)),.row 3 (D.ints [])] [(0,.ptr 0 0),(2,.ptr 2 0),(3,.ptr 3 0),(5,iA (nm b (L0 b j) naL))];have Gx:=G.nilT 6 (.stmts []) [.box [.ref 1,iA (L0 b j+1)],dY b,W6,.box [.ref 4,.ref 5,.tref 6],.row 3 (D.ints (vsD b j)),.row 3 (D.ints [])] [(0,.ptr 0 0),(2,.ptr 2 0),(3,.ptr 3 0),(5,iA (nm b (L0 b j) naL))];clear G;obtain⟨ρ,G⟩:=Gx;replace G:=v9.at G [.box [.ref 1,iA (L0 b j+1)],dY b,W6,.box [.ref 4,.ref 5,.tref 6],.row 3 (D.ints (vsD b j)),.row 3 (D.ints []),.tree (D.stmts [])] [(0,.ptr 0 0),(2,.ptr 2 0),(3,.ptr 3 0),(5,iA (nm b (L0 b j) naL))];replace G:=G.as [.box [.ref 1,iA (L0 b j+1+(nm b (L0 b j) naL-nm b (L0 b j) naL))],dY b,.box [.v (.slice none 0 0),.v (.slice none 0 0),.v (.slice none 0 0)],.box [.ref 4,.ref 5,.tref 6],.row 3 (D.ints (vsD b j)),.row 3 (D.ints (nsD b aiL (nm b (L0 b j) naL-nm b (L0 b j) naL).toNat (L0 b j+1))),.tree (D.stmts [])] [(0,.ptr 0 0),(2,.ptr 2 0),(3,.ptr 3 0),(5,iA (nm b (L0 b j) naL))] (by have e1:(L0 b j+1+(nm b (L0 b j) naL-nm b (L0 b j) naL):Int)=(L0 b j+1):=al;have e2:(nsD b aiL (nm b (L0 b j) naL-nm b (L0 b j) naL).toNat (L0 b j+1):List Int)=([]):=bo4;(first|rw[e1,e2]|simp only[e1,e2])<;>rfl) aj;refine t9 (κ:=Int) (fun i2=>0<=i2/\i2<=nm b (L0 b j) naL) (fun i2=>i2.toNat) (fun i2=>[.box [.ref 1,iA (L0 b j+1+(nm b (L0 b j) naL-i2))],dY b,.box [.v (.slice none 0 0),.v (.slice none 0 0),.v (.slice none 0 0)],.box [.ref 4,.ref 5,.tref 6],.row 3 (D.ints (vsD b j)),.row 3 (.ints (nsD b aiL (nm b (L0 b j) naL-i2).toNat (L0 b j+1))),.tree (D.stmts [])]) (fun i2=>[(0,.ptr 0 0),(2,.ptr 2 0),(3,.ptr 3 0),(5,iA i2)]) (nm b (L0 b j) naL) al (v9.at G _ _) ?_;clear G;intro i2 ρ a w hp G;replace G:=v9.at G [.box [.ref 1,iA (L0 b j+1+(nm b (L0 b j) naL-i2))],dY b,W6,.box [.ref 4,.ref 5,.tref 6],.row 3 (D.ints (vsD b j)),.row 3 (D.ints (nsD b aiL (nm b (L0 b j) naL-i2).toNat (L0 b j+1))),.tree (D.stmts [])] [(0,.ptr 0 0),(2,.ptr 2 0),(3,.ptr 3 0),(5,iA i2)];have hlen:(nsD b aiL (nm b (L0 b j) naL-i2).toNat (L0 b j+1)).length=(nm b (L0 b j) naL-i2).toNat:=an3 _ _ _ _;refine wp_seq (wp_seq (E8 G f8 [(0,.ptr 0 0),(2,.ptr 2 0),(3,.ptr 3 0),(5,iA i2),(26,bA (decide (i2>0)))] fun G=>b6 ?_));cases h1:(decide (i2>0))
   ·
    have q1:=dFf h1
    obtain rfl:i2=0:=al
    rw[b89,b88]at G;refine rF G false aj (wp_exit (t7 (t7 (t5 (b6 (wp_seq (af6 G (H5 (v7 4 [0,1,31] (j7.lend (S5 b (kp2 b j) nbL (by simp[h0,h1]) al al) [.no,.no,.row 3]) (v7 5 [0,1,4,5,6] (j7.lend (b40 b (vsD b j) (asD b j) ([]) (kp2 b j+1) 3 (nm b (kp2 b j) nbL) aj al al al al) [.no,.no,.row 3,.row 3,.tree]) H4)) fz []) [0,0,0,0,12,31,63,127] [0,1,2,3,4,5,47] [.box [.ref 1,iA (aA9 b j).snd],dY b,W6,.box [.ref 4,.ref 5,.tref 6],.row 3 (D.ints (vsD b j)),.row 3 (D.ints (asD b j)),.tree (D.stmts (aA9 b j).fst)] [(2,.ptr 2 0),(3,.ptr 3 0)] fun G=>b6 (wp_seq (wp_seq (l6 G (v8 1 [4,5,6] (j7.lend (ai0 (vsD b j) (asD b j) ((J4 (E0 b (vsD b j).length (asD b j).length 3) (nm b (kp2 b j) nbL).toNat (kp2 b j+1)).fst) ai) [.row 3,.row 3,.tree])) [(45,bA (l9 (i7.mk (vsD b j) (asD b j) (aA9 b j).fst)))] fun G=>b6 (rcB (b:=l9 (i7.mk (vsD b j) (asD b j) (J4 (E0 b (vsD b j).length (asD b j).length (3:Nat)) (nm b (kp2 b j) nbL).toNat (kp2 b j+1)).fst)) G (fun h2=>?_) fun h2=>?_)))))))))))
    · refine wp_skip (b6 (wp_seq (j9 G f8 [0,1,2,7,31] [.box [.ref 1,iA (aA9 b j).snd],dY b,.box [.ref 3,.v (.slice none 0 0),.tref 4],.row 3 (D.ints ([0]++([1]++[]))),by2] [(2,.ptr 2 0)] fun G=>b6 (wp_ret ?_))));have Gx:=G.nil 5 3 (.ints []) 1 [.box [.ref 1,iA (aA9 b j).snd],dY b,.box [.ref 3,.ref 5,.tref 4],.row 3 (D.ints ([0]++([1]++[]))),by2] [(2,.ptr 2 0)];clear G;obtain⟨ρ,G⟩:=Gx;replace G:=v9.at G [.box [.ref 1,iA (aA9 b j).snd],dY b,.box [.ref 3,.ref 5,.tref 4],.row 3 (D.ints ([0]++([1]++[]))),by2,.row 3 (D.ints [])] [(2,.ptr 2 0)];exact O7 G [0,1,3,5,4] (by show _=mR [0,1,3,5,4] (bl4 b j);unfold bl4;rw[cj2 ab]<;>rfl)
    refine wp_seq (j9 G f8 [0,1,2,4,5,6] [.box [.ref 1,iA (aA9 b j).snd],dY b,.box [.ref 3,.ref 4,.tref 5],.row 3 (D.ints (vsD b j)),.row 3 (D.ints (asD b j)),.tree (D.stmts (aA9 b j).fst)] [(2,.ptr 2 0)] fun G=>b6 (wp_ret (l0 ?_)));exact O7 G [0,1,3,4,5] (by show _=mR [0,1,3,4,5] (bl4 b j);unfold bl4;rw[cj3 ab]<;>rfl)
   have q1:=dTt h1;refine rT G _ h1 (wp_skip (b6 (wp_seq (wp_block (R3 G (v8 4 [0,1,31] (j7.lend (S5 b (L0 b j+1+(nm b (L0 b j) naL-i2)) aiL (by simp[h0,h1]) al al) [.no,.no,.row 3])) [0,1,0,0,12,28,63,127,255] [0,1,2,3,4,6,55] [.box [.ref 1,iA (L0 b j+1+(nm b (L0 b j) naL-i2)+1)],dY b,W6,.box [.ref 4,.ref 6,.tref 5],.row 3 (D.ints (vsD b j)),.tree (D.stmts []),.row 3 (D.ints (nsD b aiL (nm b (L0 b j) naL-i2).toNat (L0 b j+1)++([nm b (L0 b j+1+(nm b (L0 b j) naL-i2)) aiL]++[])))] [(0,.ptr 0 0),(2,.ptr 2 0),(3,.ptr 3 0),(5,iA i2)] (aP ((nsD b aiL (nm b (L0 b j) naL-i2).toNat (L0 b j+1)).length+([nm b (L0 b j+1+(nm b (L0 b j) naL-i2)) aiL]++[]).length) 8 []) (aK (by simp only[cn3,cn6,co1,an3];omega) co8) fun G=>n4 (b6 (M8 G f8 [(5,iA (i2-1))] [wO (i2-1)] (o1 al) fun G=>b6 ?_)))))));exact R2 G (i2-1) al al [0,1,2,3,4,6,5] (by have e1:(L0 b j+1+(nm b (L0 b j) naL-(i2-1)):Int)=(L0 b j+1+(nm b (L0 b j) naL-i2)+1):=al;have e2:(nsD b aiL (nm b (L0 b j) naL-(i2-1)).toNat (L0 b j+1):List Int)=(nsD b aiL (nm b (L0 b j) naL-i2).toNat (L0 b j+1)++([nm b (L0 b j+1+(nm b (L0 b j) naL-i2)) aiL]++[])):=(bo5 al al);(first|rw[e1,e2]|simp only[e1,e2])<;>rfl)
  have q0:=dTt h0;refine rT G _ h0 (wp_skip (b6 (wp_seq (wp_block (R3 G (v8 4 [0,1,29] (j7.lend (S5 b (j+1+(nm b j nvL-i)) viL (by simp[h0]) al al) [.no,.no,.row 3])) [0,1,0,0,12,28,63,127,255] [0,1,2,3,53] [.box [.ref 1,iA (j+1+(nm b j nvL-i)+1)],dY b,W6,a26,.row 3 (D.ints (nsD b viL (nm b j nvL-i).toNat (j+1)++([nm b (j+1+(nm b j nvL-i)) viL]++[])))] [(0,.ptr 0 0),(2,.ptr 2 0),(3,.ptr 3 0),(4,iA i)] (aP ((nsD b viL (nm b j nvL-i).toNat (j+1)).length+([nm b (j+1+(nm b j nvL-i)) viL]++[]).length) 8 []) (aK (by simp only[cn3,cn6,co1,an3];omega) co8) fun G=>n4 (b6 (M8 G f8 [(4,iA (i-1))] [wO (i-1)] (o1 al) fun G=>b6 ?_)))))));exact R2 G (i-1) al al (rg 5) (by have e1:(j+1+(nm b j nvL-(i-1)):Int)=(j+1+(nm b j nvL-i)+1):=al;have e2:(nsD b viL (nm b j nvL-(i-1)).toNat (j+1):List Int)=(nsD b viL (nm b j nvL-i).toNat (j+1)++([nm b (j+1+(nm b j nvL-i)) viL]++[])):=(bo5 al al);(first|rw[e1,e2]|simp only[e1,e2])<;>rfl)
section
variable{b:List UInt8}{p:i7}{j:Int}
end
def av5(k v r:Int):d7:=if k=3 then⟨4,r,v,r,0⟩else if k=11 then⟨7,r,r,r+1,r+2⟩else⟨6,r,k,r,r+1⟩
mutual
def c8:c6->Int->List d7
 |⟨k,v,ks⟩,r=>if k=1 then [⟨1,r,v,0,0⟩]else if k=2 then [⟨2,r,v,0,0⟩]else l8 ks r++[av5 k v r]
def l8:List c6->Int->List d7
 |[],_=>[]
 |e::t,r=>c8 e r++l8 t (r+1)
end
theorem ao4(e:c6)(r:Int):c8 e r=if e.kind=1 then [⟨1,r,e.value,0,0⟩]else if e.kind=2 then [⟨2,r,e.value,0,0⟩]else l8 e.kids r++[av5 e.kind e.value r]:=by cases e;rw[c8];rfl
theorem aq3:∀(a b:List c6) (r:Int),l8 (a++b) r=l8 a r++l8 b (r+a.length)
 |[],b,r=>by simp[l8]
 |e::t,b,r=>by
  simp only[List.cons_append,l8,cr6]
  rw[aq3 t b (r+1)]
  congr 2
  simp only[cn6]
  rw[show r+1+(t.length:Int)=r+((t.length+1:Nat):Int) by omega]
theorem aC4{ks:List c6}{k:Nat}{r:Int}(hk:k<ks.length):l8 (ks.take (k+1)) r=l8 (ks.take k) r++c8 (ks.getD k cm7) (r+k):=by
 rw[n7 _ _ hk,aq3,m6 hk]
 simp[l8,List.length_take,Nat.min_eq_left (Nat.le_of_lt hk)]
mutual
theorem aa4:∀(e:c6) (r:Int),(c8 e r).length<=1+A6 e
 |⟨k,v,ks⟩,r=>by
  have h:=ag9 ks r
  rw[c8]
  simp only[A6]
  split
  ·simp
  split
  ·simp
  simp only[cn3,cn6,co1];omega
theorem ag9:∀(ks:List c6) (r:Int),(l8 ks r).length<=F4 ks
 |[],_=>by simp[l8]
 |e::t,r=>by
  have h1:=aa4 e r
  have h2:=ag9 t (r+1)
  simp only[l8,F4,cn3];omega
end
abbrev O5:Type:=List d7×List Int×Int
def J0(x:O5)(n:Int)(c:List d7):O5:=(x.1++c,x.2.1++cm8 c.length n,x.2.2)
def bC3(l:List d7)(i:Nat)(n:Int):List d7:=l.set i ⟨(l.getD i cm7).op,(l.getD i cm7).a,n,(l.getD i cm7).c,(l.getD i cm7).d⟩
def bZ0(l:List d7)(i:Nat)(n:Int):List d7:=l.set i ⟨(l.getD i cm7).op,n,(l.getD i cm7).b,(l.getD i cm7).c,(l.getD i cm7).d⟩
mutual
def U2:c5->Int->O5->O5
 | ⟨k, t, i, v, c, b, e⟩, d, x =>
  if k=4 then J0 (p7 b (d+1) (J0 (x.1,x.2.1,x.2.2+1) x.2.2 [⟨1,9+d,c,0,0⟩])) x.2.2 [⟨10,9+d,((x.1.length+1:Nat):Int),0,0⟩]
  else if k=1 then J0 (J0 (x.1,x.2.1,x.2.2+1) x.2.2 (c8 v 0)) x.2.2 [⟨3,t,0,0,0⟩]
  else if k=5 then J0 (J0 (J0 (x.1,x.2.1,x.2.2+1) x.2.2 (c8 v 0)) x.2.2 [⟨11,0,0,0,0⟩]) x.2.2 [⟨3,t,0,0,0⟩]
  else if k=2 then J0 (J0 (J0 (x.1,x.2.1,x.2.2+1) x.2.2 (c8 v 0)) x.2.2 (c8 i 1)) x.2.2 [⟨5,t,1,0,0⟩]
  else
   (fun(y:O5)=>
    (fun(z:O5)=>
     (fun(u:O5)=>(bZ0 u.1 (z.1.length-1) (u.1.length:Int),u.2)) (p7 e (d+1) (bC3 z.1 y.1.length (z.1.length:Int),z.2)))
    (J0 (p7 b (d+1) (J0 y x.2.2 [⟨9,0,0,0,0⟩])) x.2.2 [⟨8,0,0,0,0⟩]))
   (J0 (x.1,x.2.1,x.2.2+1) x.2.2 (c8 v 0))
def p7:List c5->Int->O5->O5
 |[],_,x=>x
 |s::r,d,x=>p7 r d (U2 s d x)
end
theorem bh9(a b:List c5)(d:Int)(x:O5):p7 (a++b) d x=p7 b d (p7 a d x):=by
 induction a generalizing x with
 |nil=>rfl
 |cons s r ih=>simp only[List.cons_append,p7];exact ih _
theorem aN6{ss:List c5}{k:Nat}{d:Int}{x:O5}(hk:k<ss.length):p7 (ss.take (k+1)) d x=U2 (ss.getD k cm7) d (p7 (ss.take k) d x):=by
 rw[n7 _ _ hk,bh9,m6 hk]
 simp[p7]
mutual
def bv4:c5->Nat
 |⟨k,_,i,v,_,b,e⟩=>if k=4 then 2+aQ1 b else if k=1 then(c8 v 0).length+1 else if k=5 then(c8 v 0).length+2 else if k=2 then(c8 v 0).length+(c8 i 1).length+1 else(c8 v 0).length+2+aQ1 b+aQ1 e
def aQ1:List c5->Nat
 |[]=>0
 |s::r=>bv4 s+aQ1 r
end
mutual
theorem bR8:∀(s:c5) (d:Int) (x:O5),(U2 s d x).1.length=x.1.length+bv4 s/\(U2 s d x).2.1.length=x.2.1.length+bv4 s
 | ⟨k, t, i, v, c, b, e⟩, d, x => by
  rw[U2,bv4]
  split
  ·have h:=O2 b (d+1) (J0 (x.1,x.2.1,x.2.2+1) x.2.2 [⟨1,9+d,c,0,0⟩])
   simp only[J0,cn3,cn6,co1,co5]at h ⊢
   omega
  split
  ·simp only[J0,cn3,cn6,co1,co5];omega
  split
  ·simp only[J0,cn3,cn6,co1,co5];omega
  split
  ·simp only[J0,cn3,cn6,co1,co5];omega
  simp only
  generalize hy:J0 (x.1,x.2.1,x.2.2+1) x.2.2 (c8 v 0)=y
  have hy1:y.1.length=x.1.length+(c8 v 0).length:=by rw[<-hy];simp[J0]
  have hy2:y.2.1.length=x.2.1.length+(c8 v 0).length:=by rw[<-hy];simp[J0]
  have h1:=O2 b (d+1) (J0 y x.2.2 [⟨9,0,0,0,0⟩])
  generalize p7 b (d+1) (J0 y x.2.2 [⟨9,0,0,0,0⟩])=z at h1 ⊢
  have h2:=O2 e (d+1) (bC3 (J0 z x.2.2 [⟨8,0,0,0,0⟩]).1 y.1.length ((J0 z x.2.2 [⟨8,0,0,0,0⟩]).1.length:Int),(J0 z x.2.2 [⟨8,0,0,0,0⟩]).2)
  simp only[J0,bZ0,bC3,cp3,cn3,cn6,co1,co5]at h1 h2 ⊢
  omega
theorem O2:∀(ss:List c5) (d:Int) (x:O5),(p7 ss d x).1.length=x.1.length+aQ1 ss/\(p7 ss d x).2.1.length=x.2.1.length+aQ1 ss
 |[],_,_=>⟨rfl,rfl⟩
 |s::r,d,x=>by
  have h1:=bR8 s d x
  have h2:=O2 r d (U2 s d x)
  rw[p7,aQ1]
  omega
end
mutual
theorem bR6:∀s:c5,bv4 s<=4+4*M4 s
 |⟨k,t,i,v,c,b,e⟩=>by
  have h1:=aa4 v 0
  have h2:=aa4 i 1
  have h3:=R9 b
  have h4:=R9 e
  rw[bv4]
  simp only[M4]
  (repeat' split)<;>omega
theorem R9:∀ss:List c5,aQ1 ss<=4*j5 ss
 |[]=>cp5 _
 |s::r=>by
  have h1:=bR6 s
  have h2:=R9 r
  simp only[aQ1,j5];omega
end
section
variable{P:Program}{ι κ:Type}{φ ψ:Nat->Prop}{w0 w:World}{F:ι->Rs}{ρ ρ0:Nat->Value}{N m n:Nat}{S:List It}{tm:List (Nat×AV)}{a:Act}
def aT2(n:Nat):List Ln:=cm8 n .no++[.tree]
theorem a63(n i:Nat):A0 (aT2 n) i=if i=n then .tree else .no:=by
 unfold A0 aT2
 rw[cn2]
 rcases Nat.lt_trichotomy i n with h|h|h
 ·rw[co2 (by simpa using h),if_neg al]
  simp[cr1,h]
 ·subst h;simp
 rw[cp0 ah,if_neg al];rfl
theorem j7.datPost{f:FuncId}{args:List AV}{S0 S:List It}{d:D}{res:AV}(hc:j7.ok P ⟨f,args,S0,S++[.tree d],res⟩)(res1:AV)(hr:res=res1.tr (aT2 S.length):=by kernel_rfl)(hk:(decide (S0.length<=S.length)&&(res1.trOk (aT2 S.length)&&S.all fun x=>x.ids.isEmpty))=true:=by kernel_rfl):j7.ok P ⟨f,args,S0,S++[.dat d],res1⟩:=by
 simp only[cm9,decide_eq_true_eq]at hk
 obtain⟨hl0,hk⟩:=hk
 subst hr
 intro ι φ ψ w0 w F ρ M
 refine(hc ι φ ψ w0 w F ρ M).mono ?_
 rintro x w' ⟨ρ',h1,rfl,M2⟩
 let ρ1:Nat->Value:=fun i=>if(A0 (aT2 S.length) i).isT then E9 (ρ' i)else ρ' i
 have hρ1:∀i,ρ1 i=if(A0 (aT2 S.length) i).isT then E9 (ρ' i)else ρ' i:=fun _=>rfl
 have hne:∀i,i≠S.length->ρ1 i=ρ' i:=fun i hi=>by rw[hρ1,a63,if_neg hi];rfl
 have heq:ρ1 S.length=E9 (ρ' S.length):=by rw[hρ1,a63,if_pos rfl];rfl
 refine⟨ρ1,fun i hi=>by rw[hne i (by simp only at hi;omega)];exact h1 i hi,by rw[AV.val_tr hρ1 res1 hk.1],?_⟩
 refine M2.release fun k=>?_
 cases k with
 |inl i=>exact .inl rfl
 | inr j =>
  simp only[n6]
  rcases Nat.lt_trichotomy j S.length with hj|hj|hj
  ·have e1:p6 (S++[.dat d]) j=p6 S j:=by simp[p6,cn2,co2 hj]
   have e2:p6 (S++[.tree d]) j=p6 S j:=by simp[p6,cn2,co2 hj]
   rw[e1,e2]
   left
   have h2:(p6 S j).ids=[]:=by
    have h3:=cn8.1 hk.2 _ (co6 hj)
    rw[al0 hj]
    simpa using h3
   exact It.res_congr _ (fun i hi=>by rw[h2]at hi;cases hi) (.inr (.inr (hne j al)))
  ·subst hj
   have e1:p6 (S++[.dat d]) S.length=.dat d:=by simp[p6,cn2]
   have e2:p6 (S++[.tree d]) S.length=.tree d:=by simp[p6,cn2]
   rw[e1,e2]
   refine .inr ⟨fun b hb=>hb,fun φ' hf hown=>⟨RD.nice _ _,?_⟩⟩
   have hh:=M2.holds (.inr S.length)
   simp only[n6]at hh
   rw[e2]at hh
   rw[heq]
   exact F2.read hh.2.1 fun b hb=>hown b (by rw[show(It.tree d).res ρ' S.length=Rs.own (E3 (ρ' S.length)) _ from rfl];exact hb)
  rw[z7 ah,z7 ah];exact .inl rfl
theorem It.res_ren'{σ:Nat->Nat}{i j:Nat}{ρ:Nat->Value}(x:It)(h:σ i=j):(x.ren σ).res ρ j=x.res (fun i=>ρ (σ i)) i:=by
 subst h;exact It.res_ren x
def mv(i n j:Nat):Nat:=if natEq j i then n else j
theorem aL0{f:AV->AV}{t:Nat}{y:AV}:∀{tm:List (Nat×AV)},B9 (tm.map fun p=>(p.1,f p.2)) t=some y->∃x,B9 tm t=some x/\y=f x
 |[],h=>by cases h
 |(k,z)::r,h=>by
  simp only[B9,cq5]at h ⊢
  split at h
  ·rename_i hk;cases h;exact⟨z,by rw[if_pos hk],rfl⟩
  rename_i hk
  obtain⟨x,h1,h2⟩:=aL0 h
  exact⟨x,by rw[if_neg hk];exact h1,h2⟩
theorem b17{i n:Nat}{x:AV}:∀j∈(x.ren (mv i n)).ids,(∃k∈x.ids,mv i n k=j):=by
 have key:(∀x:AV,∀j∈(x.ren (mv i n)).ids,∃k∈x.ids,mv i n k=j)/\(∀l:List AV,∀j∈AV.idsL (AV.renL (mv i n) l),∃k∈AV.idsL l,mv i n k=j):=by
  have hL:∀(l:List AV),(∀x∈l,∀j∈(x.ren (mv i n)).ids,∃k∈x.ids,mv i n k=j)->∀j∈AV.idsL (AV.renL (mv i n) l),∃k∈AV.idsL l,mv i n k=j:=by
   intro l
   induction l with
   |nil=>intro _ j hj;cases hj
   | cons y r ih =>
    intro h j hj
    simp only[AV.renL,AV.idsL,cp2]at hj ⊢
    rcases hj with hj|hj
    ·obtain⟨k,h1,h2⟩:=h y cr0 j hj
     exact⟨k,.inl h1,h2⟩
    obtain⟨k,h1,h2⟩:=ih (fun x hx=>h x (cq8 _ hx)) j hj
    exact⟨k,.inr h1,h2⟩
  have hx:∀x:AV,∀j∈(x.ren (mv i n)).ids,∃k∈x.ids,mv i n k=j:=fun x=>goX hL x
  exact⟨hx,fun l=>hL l fun x _=>hx x⟩
 exact key.1 x
where
 goX {i n:Nat} (hL:∀(l:List AV),(∀x∈l,∀j∈(x.ren (mv i n)).ids,∃k∈x.ids,mv i n k=j)->∀j∈AV.idsL (AV.renL (mv i n) l),∃k∈AV.idsL l,mv i n k=j):∀x:AV,∀j∈(x.ren (mv i n)).ids,∃k∈x.ids,mv i n k=j
  |.v _,j,hj=>by cases hj
  |.ptr a b,j,hj=>⟨a,cq2.2 rfl,(cq2.1 hj).symm⟩
  |.ea a b c d,j,hj=>⟨a,cq2.2 rfl,(cq2.1 hj).symm⟩
  |.ref a,j,hj=>⟨a,cq2.2 rfl,(cq2.1 hj).symm⟩
  |.tref a,j,hj=>⟨a,cq2.2 rfl,(cq2.1 hj).symm⟩
  |.agg l,j,hj=>hL l (fun x _=>goX hL x) j hj
  |.tup l,j,hj=>hL l (fun x _=>goX hL x) j hj
  |.fn _ l,j,hj=>hL l (fun x _=>goX hL x) j hj
  |.bm _ l,j,hj=>hL l (fun x _=>goX hL x) j hj
theorem v9.shift(G:v9 φ ψ w0 F N m ρ0 ρ S tm a w)(i n:Nat)(S1:List It)(tm1:List (Nat×AV))(hn:(natEq S.length n&&decide (i<n))=true:=by kernel_rfl)(hS:S1=(S.map (It.ren (mv i n))).set i .dead++[(p6 S i).ren (mv i n)]:=by kernel_rfl)(ht:tm1=tm.map (fun p=>(p.1,p.2.ren (mv i n))):=by kernel_rfl):
  ∃ρ',v9 φ ψ w0 F N m ρ0 ρ' S1 tm1 a w:=by
 subst hS
 subst ht
 simp only[cm9,natEq,beq_iff_eq,decide_eq_true_eq]at hn
 obtain⟨hn,hin⟩:=hn
 have hlen:((S.map (It.ren (mv i n))).set i .dead++[(p6 S i).ren (mv i n)]).length=n+1:=by simp[hn]
 have hat:∀j,p6 ((S.map (It.ren (mv i n))).set i .dead++[(p6 S i).ren (mv i n)]) j=if j=n then(p6 S i).ren (mv i n)else if j=i then .dead else(p6 S j).ren (mv i n):=fun j=>by
  by_cases e:j=n
  ·subst e
   rw[if_pos rfl]
   simp only[p6,cn2]
   rw[cp9 (by simp[hn])]
   simp[hn]
  rw[if_neg e]
  by_cases e2:j=i
  ·subst e2
   rw[if_pos rfl]
   simp only[p6,cn2]
   rw[co2 ah]
   simp[show j<S.length by omega]
  rw[if_neg e2]
  simp only[p6,cn2]
  rcases cp1 j n with h|h
  ·rw[co2 ah,List.getElem?_set_ne (fun h=>e2 h.symm),List.getElem?_map,cn0 al]
   rfl
  rw[cp0 ah,cp0 al];rfl
 have hbd:∀x:AV,(∀j∈x.ids,j<n)->∀j∈(x.ren (mv i n)).ids,j<n+1:=fun x h j hj=>by
  obtain⟨k,h1,h2⟩:=b17 j hj
  have:=h k h1
  rw[<-h2];unfold mv
  split<;>omega
 let ρ1:Nat->Value:=fun j=>if j=n then ρ i else ρ j
 have hmv:∀j,j<n->ρ1 (mv i n j)=ρ j:=fun j hj=>by
  show(if mv i n j=n then ρ i else ρ (mv i n j))=ρ j
  by_cases e:j=i
  ·subst e;simp[mv,natEq]
  have h:mv i n j=j:=by simp[mv,natEq,e]
  rw[h,if_neg al]
 have hval:∀x:AV,(∀j∈x.ids,j<n)->(x.ren (mv i n)).val ρ1=x.val ρ:=fun x h=>by
  rw[AV.val_ren]
  exact AV.val_congr x fun j hj=>hmv j (h j hj)
 have hids:∀j,∀q∈(p6 S j).ids,q<n:=fun j q hq=>by have:=(G.bd j).1 q hq;omega
 have hitem:∀j,∀q∈((p6 S j).ren (mv i n)).ids,q<n+1:=fun j q hq=>by
  cases hx:p6 S j with
  |box cs=>
   rw[hx]at hq
   have h1:=hids j
   rw[hx]at h1
   exact hbd (.agg cs) h1 q hq
  |hole k d ls=>
   rw[hx]at hq
   have h1:=hids j
   rw[hx]at h1
   exact hbd (.ref k) h1 q hq
  |_=>rw[hx]at hq;cases hq
 refine⟨ρ1,G.size,G.defs,fun t y hy=>?_,fun t y hy j hj=>?_,fun j=>⟨fun q hq=>?_,fun hj=>z7 hj⟩,?_,?_,fun j hj=>?_⟩
 ·obtain⟨x,h1,rfl⟩:=aL0 hy
  rw[G.tmv t x h1,hval x fun j hj=>by have:=G.tmi t x h1 j hj;omega]
 ·obtain⟨x,h1,rfl⟩:=aL0 hy
  rw[hlen]
  exact hbd x (fun j hj=>by have:=G.tmi t x h1 j hj;omega) j hj
 ·rw[hlen]
  rw[hat]at hq
  split at hq
  ·exact hitem i q hq
  split at hq
  ·cases hq
  exact hitem j q hq
 ·refine G.mem.map (fun k:ι ⊕ Nat=>(match k with|.inl q=>some (.inl q)|.inr j=>if j=n then some (.inr i)else if j=i then none else some (.inr j):Option (ι ⊕ Nat))) ?_ ?_
  ·intro k k' x h1 h2
   match k,k' with
   |.inl q,.inl q'=>simp at h1 h2;rw[<-h1]at h2;simpa using h2.symm
   |.inl q,.inr j=>simp at h1;subst h1;simp at h2;split at h2<;>simp at h2
   |.inr j,.inl q=>simp at h2;subst h2;simp at h1;split at h1<;>simp at h1
   | .inr j, .inr j' =>
    simp only at h1 h2
    by_cases e1:j=n<;>by_cases e2:j'=n
    ·rw[e1,e2]
    ·rw[if_pos e1]at h1
     rw[if_neg e2]at h2
     by_cases e3:j'=i
     ·rw[if_pos e3]at h2;cases h2
     rw[if_neg e3]at h2
     simp at h1 h2
     rw[<-h1]at h2
     exact absurd (Sum.inr.inj h2) e3
    ·rw[if_pos e2]at h2
     rw[if_neg e1]at h1
     by_cases e3:j=i
     ·rw[if_pos e3]at h1;cases h1
     rw[if_neg e3]at h1
     simp at h1 h2
     rw[<-h2]at h1
     exact absurd (Sum.inr.inj h1) e3
    rw[if_neg e1]at h1
    rw[if_neg e2]at h2
    by_cases e3:j=i
    ·rw[if_pos e3]at h1;cases h1
    by_cases e4:j'=i
    ·rw[if_pos e4]at h2;cases h2
    rw[if_neg e3]at h1
    rw[if_neg e4]at h2
    simp at h1 h2
    rw[<-h1]at h2
    rw[Sum.inr.inj h2]
  intro k
  match k with
  |.inl q=>exact .inl ⟨_,rfl,rfl⟩
  | .inr j =>
   by_cases e:j=n
   ·refine .inl ⟨.inr i,by simp[e],?_⟩
    simp only[n6]
    rw[hat,if_pos e]
    subst e
    have h1:mv i j i=j:=by simp[mv,natEq]
    rw[It.res_ren' (p6 S i) h1]
    exact It.res_congr _ (fun q hq=>hmv q (hids i q hq)) (.inr (.inr (hmv i hin)))
   by_cases e2:j=i
   ·refine .inr ?_
    simp only[n6]
    rw[hat,if_neg e,if_pos e2]
    rfl
   refine .inl ⟨.inr j,by simp[e,e2],?_⟩
   simp only[n6]
   rw[hat,if_neg e,if_neg e2]
   rcases cp1 j n with hj|hj
   ·have h1:mv i n j=j:=by simp[mv,natEq,e2]
    rw[It.res_ren' (p6 S j) h1]
    exact It.res_congr _ (fun q hq=>hmv q (hids j q hq)) (.inr (.inr (hmv j hj)))
   rw[z7 al];rfl
 ·have:=G.le;rw[hlen];omega
 have:=G.le
 show(if j=n then ρ i else ρ j)=ρ0 j
 rw[if_neg al];exact G.old j hj
end
abbrev rN(l:List d7):It:=.row 76 (.instrs l)
abbrev rI(l:List Int):It:=.row 3 (.ints l)
theorem H6(l:List d7)(fr:List Int)(at0 n o x y z u:Int)(h1:l.length<=8000000)(h2:fr.length<=8000000):j7.ok Tryz.prog ⟨146,[.agg [.ref 0,.ref 1,iA at0],iA n,.agg [iA o,iA x,iA y,iA z,iA u]],[rN l,rI fr],[.dead,.dead,rN (l++[⟨o,x,y,z,u⟩]),rI (fr++[n])],.agg [.ref 2,.ref 3,iA at0]⟩:=by
 refine H9 20 Tryz.func146 [.row 76 (D.instrs l),.row 3 (D.ints fr)] [(0,.agg [.ref 0,.ref 1,iA at0]),(1,iA n),(2,.agg [iA o,iA x,iA y,iA z,iA u])] fun G=>?_;refine wp_seq (j9 G f8 [0,1,2,10,18] [.row 76 (D.instrs l),.row 3 (D.ints fr),.box [.ref 0,.ref 1,iA at0],.box [iA o,iA x,iA y,iA z,iA u],.box [.v (.slice none 0 0),.v (.slice none 0 0),iA 0]] [(1,iA n),(3,.ptr 2 0),(5,.ptr 3 0),(6,.ptr 4 0)] fun G=>b6 (wp_seq (Z5 G f8 [0,1,2,4,37] [.dead,.row 3 (D.ints fr),.box [.ref 4,.ref 1,iA at0],.box [.v (.slice none 0 0),.v (.slice none 0 0),iA 0],.row 76 (D.instrs (l++([d7.mk o x y z u]++[])))] [(1,iA n),(3,.ptr 2 0),(6,.ptr 3 0)] (aP (l.length+1) 40 []) (aK al co8) fun G=>b6 (wp_seq (Z5 G f8 [0,1,2,3,4,37] [.dead,.dead,.box [.ref 4,.ref 5,iA at0],.box [.v (.slice none 0 0),.v (.slice none 0 0),iA 0],.row 76 (D.instrs (l++([d7.mk o x y z u]++[]))),.row 3 (D.ints (fr++([n]++[])))] [(3,.ptr 2 0),(6,.ptr 3 0)] (aP (fr.length+1) 8 []) (aK al co8) fun G=>b6 (wp_seq (j9 G f8 [0,1,3,4,5] [.dead,.dead,.box [.ref 3,.ref 4,iA at0],.row 76 (D.instrs (l++([d7.mk o x y z u]++[]))),.row 3 (D.ints (fr++([n]++[])))] [(6,.ptr 2 0)] fun G=>b6 (wp_ret ?_))))))));exact O7 G [0,1,3,4]
abbrev l7C(l:List d7)(fr:List Int)(at0 n:Int)(e:c6)(reg:Int):j7:=⟨195,[.agg [.ref 0,.ref 1,iA at0],iA n,eA e 2,iA reg],[rN l,rI fr,dE e.kids],[.dead,.dead,dE e.kids,rN (l++c8 e reg),rI (fr++cm8 (c8 e reg).length n)],.agg [.ref 3,.ref 4,iA at0]⟩
theorem ce1{e:c6}{r:Int}(k:e.kind=1):c8 e r=[⟨1,r,e.value,0,0⟩]:=by rw[ao4,if_pos k]
theorem ce2{e:c6}{r:Int}(k:e.kind=2):c8 e r=[⟨2,r,e.value,0,0⟩]:=by rw[ao4,if_neg al,if_pos k]
theorem am8(ks:List c6)(k:Nat):F4 (ks.take k)<=F4 ks/\(k<ks.length->F4 (ks.take k)+1+A6 (ks.getD k cm7)<=F4 ks)/\(ks.take k).length<=F4 (ks.take k):=by
 refine⟨?_,fun h=>?_,at9 _⟩
 ·have:=ac4 (ks.take k) (ks.drop k)
  rw[List.take_append_drop]at this
  omega
 have h1:=ac4 (ks.take (k+1)) (ks.drop (k+1))
 rw[List.take_append_drop,n7 _ _ h,ac4, <-m6 (d:=cm7) h]at h1
 simp only[F4]at h1
 omega
section
variable{e:c6}{l:List d7}{fr:List Int}{n reg:Int}{k:Nat}
theorem aW7(e:c6):A6 e=F4 e.kids:=by cases e;rfl
theorem b31(h0:0<=reg)(h1:reg+A6 e<=2000000)(hk:k<e.kids.length):0<=reg+(k:Int)/\reg+(k:Int)+A6 (e.kids.getD k cm7)<=2000000:=by
 have h2:=(am8 e.kids k).2.1 hk
 have h3:=(am8 e.kids k).2.2
 rw[List.length_take]at h3
 rw[aW7]at h1
 omega
theorem b32(h2:l.length+A6 e<=5000000)(hk:k<e.kids.length):(l++l8 (e.kids.take k) reg).length+A6 (e.kids.getD k cm7)<=5000000:=by
 have h3:=(am8 e.kids k).2.1 hk
 have h4:=ag9 (e.kids.take k) reg
 rw[aW7]at h2
 rw[cn3]
 omega
theorem az8(h2:l.length+A6 e<=5000000):(l++l8 (e.kids.take k) reg).length<=5000000:=by
 have h3:=(am8 e.kids k).1
 have h4:=ag9 (e.kids.take k) reg
 rw[aW7]at h2
 rw[cn3]
 omega
theorem aN8(h3:fr.length=l.length):(fr++cm8 (l8 (e.kids.take k) reg).length n).length=(l++l8 (e.kids.take k) reg).length:=by simp[h3]
theorem bS0(hk:k<e.kids.length):l++l8 (e.kids.take (k+1)) reg=l++l8 (e.kids.take k) reg++c8 (e.kids.getD k cm7) (reg+(k:Int)):=by rw[aC4 hk,cr6]
theorem bJ2(hk:k<e.kids.length):fr++cm8 (l8 (e.kids.take (k+1)) reg).length n=fr++cm8 (l8 (e.kids.take k) reg).length n++cm8 (c8 (e.kids.getD k cm7) (reg+(k:Int))).length n:=by
 rw[aC4 hk,cn3,cr6,List.replicate_append_replicate]
theorem bJ1:l=l++l8 (e.kids.take 0) reg:=by simp[l8]
theorem bv5:fr=fr++cm8 (l8 (e.kids.take 0) reg).length n:=by simp[l8]
theorem bi1(k1:¬e.kind=1)(k2:¬e.kind=2)(hk:e.kids.length<=k){x:d7}(hx:av5 e.kind e.value reg=x):l++c8 e reg=l++l8 (e.kids.take k) reg++[x]:=by
 rw[ao4,if_neg k1,if_neg k2,co3 hk,hx,cr6]
theorem a14(k1:¬e.kind=1)(k2:¬e.kind=2)(hk:e.kids.length<=k):fr++cm8 (c8 e reg).length n=fr++cm8 (l8 (e.kids.take k) reg).length n++[n]:=by
 rw[ao4,if_neg k1,if_neg k2,co3 hk,cr6,cn3,cn6,co1,List.replicate_succ']
theorem la3(k:e.kind=3):av5 e.kind e.value reg=⟨4,reg,e.value,reg,0⟩:=by rw[av5,if_pos k]
theorem ck8(k:e.kind=11):av5 e.kind e.value reg=⟨7,reg,reg,reg+1,reg+2⟩:=by rw[av5,if_neg al,if_pos k]
theorem la0(k3:¬e.kind=3)(k:¬e.kind=11):av5 e.kind e.value reg=⟨6,reg,e.kind,reg,reg+1⟩:=by rw[av5,if_neg k3,if_neg k]
end
abbrev ad0(e:c6)(l:List d7)(fr:List Int)(n:Int)(reg:Int):List It:=[.dead,.dead,dE e.kids,.row 76 (D.instrs (l++c8 e reg)),.row 3 (D.ints (fr++cm8 (c8 e reg).length n))]
abbrev aa5(n:Int)(reg:Int)(r0:List (Nat×AV)):List (Nat×AV):=(1,iA n)::(3,iA reg)::(4,.ptr 3 0)::(6,.ptr 4 0)::(8,.ptr 5 0)::r0
abbrev aV1(e:c6)(at0:Int)(r0:List It):List It:=.dead::.dead::dE e.kids::.box [.ref 6,.ref 7,iA at0]::.box (eL e 2)::.box [.v (.slice none 0 0),.v (.slice none 0 0),iA 0]::r0
theorem bA7(e:c6)(ih:∀(u:c6),u∈e.kids->∀(l:List d7) (fr:List Int) (at0 n reg:Int),0<=reg->reg+A6 u<=2000000->l.length+A6 u<=5000000->fr.length=l.length->j7.ok Tryz.prog (l7C l fr at0 n u reg))(l:List d7)(fr:List Int)(at0 n reg:Int)(r0:0<=reg)(r1:reg+A6 e<=2000000)(r2:l.length+A6 e<=5000000)(r3:fr.length=l.length):j7.ok Tryz.prog (l7C l fr at0 n e reg):=by
  refine H9 82 Tryz.func195 [.row 76 (D.instrs l),.row 3 (D.ints fr),dE e.kids] [(0,.agg [.ref 0,.ref 1,iA at0]),(1,iA n),(2,eA e 2),(3,iA reg)] fun G=>?_
  have hlen:e.kids.length<=A6 e:=by cases e;exact at9 _
  refine wp_seq (j9 G f8 [0,1,2,3,11,19] [.row 76 (D.instrs l),.row 3 (D.ints fr),dE e.kids,.box [.ref 0,.ref 1,iA at0],.box (eL e 2),.box [.v (.slice none 0 0),.v (.slice none 0 0),iA 0]] (aa5 n reg []) fun G=>b6 (wp_seq (wp_seq (l6 G f8 [(11,iA e.kind)] fun G=>b6 (wp_block (wp_seq (l6 G f8 [(12,bA (e.kind==1))] fun G=>b6 (Q7 G (fun h0 q0=>?_) fun h0 q0=>?_))))))))
  ·
   refine wp_seq (l6 G f8 [(21,bA (e.kind==2))] fun G=>b6 (Q7 G (fun h1 q1=>?_) fun h1 q1=>?_))
   ·
    refine wp_skip (n4 (b6 (wp_seq (wp_seq (E8 G f8 (aa5 n reg [(9,iA 0)]) fun G=>b6 (wp_block ?_))))));obtain⟨ρ,G⟩:=G.shift 0 6 [.dead,.row 3 (D.ints fr),dE e.kids,.box [.ref 6,.ref 1,iA at0],.box (eL e 2),.box [.v (.slice none 0 0),.v (.slice none 0 0),iA 0],.row 76 (D.instrs l)] (aa5 n reg [(9,iA 0)]);obtain⟨ρ,G⟩:=G.shift 1 7 (aV1 e at0 [.row 76 (D.instrs l),.row 3 (D.ints fr)]) (aa5 n reg [(9,iA 0)]);replace G:=G.as (aV1 e at0 [.row 76 (D.instrs (l++l8 (cn7 0 e.kids) reg)),.row 3 (D.ints (fr++cm8 (l8 (cn7 0 e.kids) reg).length n))]) (aa5 n reg [(9,iA 0)]) (by have e1:(l++l8 (cn7 0 e.kids) reg:List d7)=(l):=bJ1.symm;have e2:(fr++cm8 (l8 (cn7 0 e.kids) reg).length n:List Int)=(fr):=bv5.symm;(first|rw[e1,e2]|simp only[e1,e2])<;>rfl) aj;refine t9 (κ:=Nat) (fun k=>k<=e.kids.length) (fun k=>e.kids.length-k) (fun k=>[.dead,.dead,dE e.kids,.box [.ref 6,.ref 7,iA at0],.box (eL e 2),.box [.v (.slice none 0 0),.v (.slice none 0 0),iA 0],.row 76 (.instrs (l++l8 (e.kids.take k) reg)),.row 3 (.ints (fr++cm8 (l8 (e.kids.take k) reg).length n))]) (fun k=>[(1,iA n),(3,iA reg),(4,.ptr 3 0),(6,.ptr 4 0),(8,.ptr 5 0),(9,iA k)]) 0 al (v9.at G _ _) ?_;clear G;intro k ρ a w hp G;replace G:=v9.at G (aV1 e at0 [.row 76 (D.instrs (l++l8 (cn7 k e.kids) reg)),.row 3 (D.ints (fr++cm8 (l8 (cn7 k e.kids) reg).length n))]) (aa5 n reg [(9,iA k)]);refine wp_seq (wp_seq (l6 G f8 [(34,bA (decide ((k:Int)<e.kids.length)))] fun G=>b6 (rcD G (fun h2 q2=>?_) fun h2 q2=>?_)))
    ·
     refine wp_exit (t7 (t7 (t5 (b6 (wp_seq (wp_seq (l6 G f8 [(49,iA e.kind)] fun G=>b6 (wp_block (wp_seq (l6 G f8 [(50,bA (e.kind==3))] fun G=>b6 (Q7 G (fun h3 q3=>?_) fun h3 q3=>?_)))))))))))
     ·
      refine wp_seq (l6 G f8 [(60,bA (e.kind==11))] fun G=>b6 (Q7 G (fun h4 q4=>?_) fun h4 q4=>?_))
      · refine wp_skip (n4 (b6 (wp_seq (Z5 G (v8 9 [6,7] (H6 (l++l8 (cn7 k e.kids) reg) (fr++cm8 (l8 (cn7 k e.kids) reg).length n) at0 n 6 reg e.kind reg (reg+1) (by have:=az8 (k:=k) (reg:=reg) r2;have:=aN8 (e:=e) (n:=n) (k:=k) (reg:=reg) r3;omega) (by have:=az8 (k:=k) (reg:=reg) r2;have:=aN8 (e:=e) (n:=n) (k:=k) (reg:=reg) r3;omega))) [0,1,2,5,80,81] [.dead,.dead,dE e.kids,.box [.ref 4,.ref 5,iA at0],.row 76 (D.instrs (l++l8 (cn7 k e.kids) reg++[d7.mk 6 reg e.kind reg (reg+1)])),.row 3 (D.ints (fr++cm8 (l8 (cn7 k e.kids) reg).length n++[n]))] [(8,.ptr 3 0)] [wO (reg+1)] (o1 al) fun G=>b6 (wp_ret ?_)))));exact O7 G [0,1,2,4,5] (by show _=mR [0,1,2,4,5] (ad0 e l fr n reg);unfold ad0;have e1:(l++c8 e reg:List d7)=(l++l8 (cn7 k e.kids) reg++[d7.mk 6 reg e.kind reg (reg+1)]):=(bi1 al al al (la0 al al));have e2:(fr++cm8 (c8 e reg).length n:List Int)=(fr++cm8 (l8 (cn7 k e.kids) reg).length n++[n]):=(a14 al al al);(first|rw[e1,e2]|simp only[e1,e2])<;>rfl)
      refine wp_seq (Z5 G (v8 9 [6,7] (H6 (l++l8 (cn7 k e.kids) reg) (fr++cm8 (l8 (cn7 k e.kids) reg).length n) at0 n 7 reg reg (reg+1) (reg+2) (by have:=az8 (k:=k) (reg:=reg) r2;have:=aN8 (e:=e) (n:=n) (k:=k) (reg:=reg) r3;omega) (by have:=az8 (k:=k) (reg:=reg) r2;have:=aN8 (e:=e) (n:=n) (k:=k) (reg:=reg) r3;omega))) [0,1,2,3,4,5,6,7,80,81] [.dead,.dead,dE e.kids,.box [.ref 6,.ref 7,iA at0],.box (eL e 2),.box [.ref 8,.ref 9,iA at0],.dead,.dead,.row 76 (D.instrs (l++l8 (cn7 k e.kids) reg++[d7.mk 7 reg reg (reg+1) (reg+2)])),.row 3 (D.ints (fr++cm8 (l8 (cn7 k e.kids) reg).length n++[n]))] (aa5 n reg []) [wO (reg+1),wO (reg+2)] (o2 al) fun G=>b6 (wp_ret (A3 (l0 ?_))));exact O7 G [0,1,2,8,9] (by show _=mR [0,1,2,8,9] (ad0 e l fr n reg);unfold ad0;have e1:(l++c8 e reg:List d7)=(l++l8 (cn7 k e.kids) reg++[d7.mk 7 reg reg (reg+1) (reg+2)]):=(bi1 al al al (ck8 al));have e2:(fr++cm8 (c8 e reg).length n:List Int)=(fr++cm8 (l8 (cn7 k e.kids) reg).length n++[n]):=(a14 al al al);(first|rw[e1,e2]|simp only[e1,e2])<;>rfl)
     refine wp_seq (j9 G (v8 7 [6,7] (H6 (l++l8 (cn7 k e.kids) reg) (fr++cm8 (l8 (cn7 k e.kids) reg).length n) at0 n 4 reg e.value reg 0 (by have:=az8 (k:=k) (reg:=reg) r2;have:=aN8 (e:=e) (n:=n) (k:=k) (reg:=reg) r3;omega) (by have:=az8 (k:=k) (reg:=reg) r2;have:=aN8 (e:=e) (n:=n) (k:=k) (reg:=reg) r3;omega))) [0,1,2,3,4,5,6,7,64,65] [.dead,.dead,dE e.kids,.box [.ref 6,.ref 7,iA at0],.box (eL e 2),.box [.ref 8,.ref 9,iA at0],.dead,.dead,.row 76 (D.instrs (l++l8 (cn7 k e.kids) reg++[d7.mk 4 reg e.value reg 0])),.row 3 (D.ints (fr++cm8 (l8 (cn7 k e.kids) reg).length n++[n]))] (aa5 n reg []) fun G=>b6 (wp_ret (A3 (l0 ?_))));exact O7 G [0,1,2,8,9] (by show _=mR [0,1,2,8,9] (ad0 e l fr n reg);unfold ad0;have e1:(l++c8 e reg:List d7)=(l++l8 (cn7 k e.kids) reg++[d7.mk 4 reg e.value reg 0]):=(bi1 al al al (la3 al));have e2:(fr++cm8 (c8 e reg).length n:List Int)=(fr++cm8 (l8 (cn7 k e.kids) reg).length n++[n]):=(a14 al al al);(first|rw[e1,e2]|simp only[e1,e2])<;>rfl)
    refine wp_skip (b6 (wp_seq (wp_block (R3 G (v8 10 [6,7,56] (ih (e.kids.getD k cm7) (av7 al) (l++l8 (cn7 k e.kids) reg) (fr++cm8 (l8 (cn7 k e.kids) reg).length n) at0 n (reg+(k:Int)) al ((b31 r0 r1 al).2) (b32 r2 al) (aN8 r3))) [0,0,0,4,0,28,60,0,0,384,1023,2047] [0,1,2,3,4,5,88,89] (aV1 e at0 [.row 76 (D.instrs (l++l8 (cn7 k e.kids) reg++c8 (e.kids.getD k cm7) (reg+(k:Int)))),.row 3 (D.ints (fr++cm8 (l8 (cn7 k e.kids) reg).length n++cm8 (c8 (e.kids.getD k cm7) (reg+(k:Int))).length n))]) (aa5 n reg [(9,iA k)]) (iX k k e.kids.length ((wO (reg+(k:Int)))::[])) (iK al (o1 al)) fun G=>n4 (b6 (M8 G f8 [(9,iA ((k:Int)+1))] [wO ((k:Int)+1)] (o1 al) fun G=>b6 ?_))))));exact R2 G (k+1) al al (rg 8) (by have e1:(l++l8 (cn7 (k+1) e.kids) reg:List d7)=(l++l8 (cn7 k e.kids) reg++c8 (e.kids.getD k cm7) (reg+(k:Int))):=(bS0 al);have e2:(fr++cm8 (l8 (cn7 (k+1) e.kids) reg).length n:List Int)=(fr++cm8 (l8 (cn7 k e.kids) reg).length n++cm8 (c8 (e.kids.getD k cm7) (reg+(k:Int))).length n):=(bJ2 al);(first|rw[e1,e2]|simp only[e1,e2])<;>rfl)
   refine wp_seq (j9 G (v8 6 [0,1] (H6 l fr at0 n 2 reg e.value 0 0 al al)) [0,1,2,3,4,5,54,55] [.dead,.dead,dE e.kids,.box [.ref 0,.ref 1,iA at0],.box (eL e 2),.box [.ref 6,.ref 7,iA at0],.row 76 (D.instrs (l++[d7.mk 2 reg e.value 0 0])),.row 3 (D.ints (fr++[n]))] (aa5 n reg []) fun G=>b6 (wp_ret (A3 (l0 ?_))));exact O7 G [0,1,2,6,7] (by show _=mR [0,1,2,6,7] (ad0 e l fr n reg);unfold ad0;rw[ce2 al]<;>rfl)
  refine wp_seq (j9 G (v8 6 [0,1] (H6 l fr at0 n 1 reg e.value 0 0 al al)) [0,1,2,3,4,5,54,55] [.dead,.dead,dE e.kids,.box [.ref 0,.ref 1,iA at0],.box (eL e 2),.box [.ref 6,.ref 7,iA at0],.row 76 (D.instrs (l++[d7.mk 1 reg e.value 0 0])),.row 3 (D.ints (fr++[n]))] (aa5 n reg []) fun G=>b6 (wp_ret (A3 (l0 ?_))));exact O7 G [0,1,2,6,7] (by show _=mR [0,1,2,6,7] (ad0 e l fr n reg);unfold ad0;rw[ce1 al]<;>rfl)
theorem a99(e:c6):∀(l:List d7) (fr:List Int) (at0 n reg:Int),0<=reg->reg+A6 e<=2000000->l.length+A6 e<=5000000->fr.length=l.length->j7.ok Tryz.prog (l7C l fr at0 n e reg):=
 c6.ind (P:=fun e=>∀(l:List d7) (fr:List Int) (at0 n reg:Int),0<=reg->reg+A6 e<=2000000->l.length+A6 e<=5000000->fr.length=l.length->j7.ok Tryz.prog (l7C l fr at0 n e reg)) (fun k v ks ih l fr at0 n reg r0 r1 r2 r3=>bA7 ⟨k,v,ks⟩ (fun u hu=>ih u hu) l fr at0 n reg r0 r1 r2 r3) e
theorem k8.sel{ι:Type}{φ ψ:Nat->Prop}{w0 w:World}{F:ι->Rs}{ρ:Nat->Value}{S S1:List It}{js:List Nat}(M:k8 φ ψ w0 w (n6 F ρ (p6 S)))(hn:js.Nodup)(hl:js.length=S1.length)(hS:js.map (p6 S)=S1.map (It.ren (nth js))):k8 φ ψ w0 w (n6 F (fun i=>ρ (nth js i)) (p6 S1)):=by
 refine M.map (fun k:ι ⊕ Nat=>(match k with|.inl i=>some (.inl i)|.inr i=>if i<js.length then some (.inr (nth js i))else none:Option (ι ⊕ Nat))) ?_ ?_
 ·intro k k' x h1 h2
  match k,k' with
  |.inl i,.inl i'=>simp at h1 h2;rw[<-h1]at h2;simpa using h2.symm
  |.inl i,.inr j=>simp only at h1 h2;cases h1;split at h2<;>simp at h2
  |.inr j,.inl i=>simp only at h1 h2;cases h2;split at h1<;>simp at h1
  |.inr j,.inr j'=>
   simp at h1 h2
   obtain⟨f1,f2⟩:=h1
   obtain⟨g1,g2⟩:=h2
   rw[<-f2]at g2
   have hj:=Sum.inr.inj g2
   have e1:=cn0 f1
   have e2:=cn0 g1
   rw[J9 e2,J9 e1]at hj
   have:=(List.getElem?_inj f1 hn).1 (e1.trans (by rw[<-hj];exact e2.symm))
   rw[this]
 intro k
 match k with
 |.inl i=>exact .inl ⟨_,rfl,rfl⟩
 | .inr i =>
  by_cases hlt:i<js.length
  ·refine .inl ⟨.inr (nth js i),by simp[hlt],?_⟩
   have h1:=congrArg (·[i]?) hS
   have hlt':i<S1.length:=al
   simp only[List.getElem?_map,cn0 hlt,cn0 hlt',Option.map_some,Option.some.injEq]at h1
   simp only[n6]
   rw[al0 hlt',J9 (cn0 hlt),h1, <-It.res_ren,J9 (cn0 hlt)]
  refine .inr ?_
  simp only[n6]
  rw[z7 al]
  rfl
theorem j7.nilArg{P:Program}{f:FuncId}{args args0:List AV}{pre post post':List It}{res res':AV}{e:TypeId}{d:D}(hc:j7.ok P ⟨f,args0,pre++[.row e d],post,res⟩)(k:Nat)(js:List Nat)(hd:D.nil k=some d)(ha:args=AV.denL false pre.length args0)(hid:(X1 pre.length (AV.idsL args)&&pre.all (fun x=>X1 pre.length x.ids)&&nodupB js&&natEq js.length post'.length&&bV2 pre.length js)=true)(hS:js.map (p6 post)=post'.map (It.ren (nth js)))(hr:res=res'.ren (nth js)):j7.ok P ⟨f,args,pre,post',res'⟩:=by
 intro ι φ ψ w0 w F ρ M
 simp only[cm9,natEq,beq_iff_eq]at hid
 obtain⟨⟨⟨⟨h1,h2⟩,h3⟩,h4⟩,h5⟩:=hid
 have hz:=D.nil_len hd
 have hvals:=(AV.vals_den (ρ:=ρ) (t:=false) (n:=pre.length) (z:=.slice none 0 0) ao args0 (by rw[<-ha];exact D8 h1)).1
 have hlt:∀j,j<pre.length->p6 (pre++[.row e d]) j=p6 pre j:=fun j hj=>by simp[p6,cn2,co2 hj]
 have hids:∀j,∀i∈(p6 pre j).ids,i<pre.length:=fun j=>by
  by_cases hj:j<pre.length
  ·rw[al0 hj]
   exact D8 (cn8.1 h2 _ (co6 hj))
  rw[z7 al];intro i hi;cases hi
 have M1:k8 φ ψ w0 w (n6 F (fun j=>if j=pre.length then .slice none 0 0 else ρ j) (p6 (pre++[.row e d]))):=by
  refine k8.put M (.inr pre.length) (fun k hk=>?_) (C6.refl _ _) ?_ ?_
  ·cases k with
   |inl i=>rfl
   | inr j =>
    simp only[n6]
    rcases Nat.lt_trichotomy j pre.length with h|h|h
    ·rw[hlt j h]
     exact It.res_congr _ (fun i hi=>if_neg (by have:=hids j i hi;omega)) (.inr (.inr (if_neg al)))
    ·exact absurd (by rw[h]) hk
    rw[z7 (show(pre++[It.row e d]).length<=j by simp;omega),z7 (show pre.length<=j by omega)];rfl
  ·have:p6 (pre++[.row e d]) pre.length=.row e d:=by simp[p6,cn2]
   simp only[n6,this,It.res,if_true]
   refine⟨fun xs=>RW.nice d xs,[],?_,RW.nil hz _⟩
   rw[hz];exact World.ownsRow_nil _ _ _ _
  intro g hg
  have:p6 (pre++[.row e d]) pre.length=.row e d:=by simp[p6,cn2]
  simp only[n6,this,It.res,if_true]at hg
  cases hg
 have h:=hc ι φ ψ w0 w F _ M1
 simp only[hvals, <-ha]at h
 refine h.mono ?_
 rintro x w' ⟨ρ2,g1,rfl,M2⟩
 have hk:∀i,i<pre.length->nth js i=i:=fun i hi=>by
  have:=cn8.1 h5 i (cq6.2 hi)
  simp only[cm9,natEq,beq_iff_eq]at this
  exact this.1
 refine⟨fun i=>ρ2 (nth js i),fun i hi=>?_,?_,M2.sel (ar9 h3) h4 hS⟩
 ·have hi:i<pre.length:=hi
  simp only[hk i hi]
  rw[g1 i ah,if_neg al]
 show Ending.returned (res.val ρ2)=.returned (res'.val _)
 rw[hr,AV.val_ren]
def TF(z:Bool)(p:Prop):Prop:=(z=true/\p)\/(z=false/\¬p)
theorem TF.t{z:Bool}{p:Prop}(h:TF z p)(h2:z=true):p:=h.elim (·.2) fun h=>by rw[h.1]at h2;cases h2
theorem TF.f{z:Bool}{p:Prop}(h:TF z p)(h2:z=false):¬p:=h.elim (fun h=>by rw[h.1]at h2;cases h2) (·.2)
theorem TF.d{p q:Prop}[Decidable q](h:q↔p):TF (decide q) p:=by
 by_cases hq:q
 ·exact .inl ⟨decide_eq_true hq,h.1 hq⟩
 exact .inr ⟨decide_eq_false hq,fun hp=>hq (h.2 hp)⟩
section
variable{P:Program}{ι:Type}{φ ψ:Nat->Prop}{w0 w:World}{F:ι->Rs}{N m:Nat}{ρ0 ρ:Nat->Value}{S:List It}{tm:List (Nat×AV)}{a:Act}{Q:Exit->Act->World->Prop}
theorem bN9{κ:Type}{c1 c2:Code}(G:v9 φ ψ w0 F N m ρ0 ρ S tm a w)(pre:κ->Prop)(Sk:κ->List It)(Tk:κ->List (Nat×AV))(h1:c1.wp P (Exit.then (fun a' w'=>∃k' ρ',pre k'/\0<1/\v9 φ ψ w0 F N m ρ0 ρ' (Sk k') (Tk k') a' w') Q) a w)(h2:∀k ρ a w,pre k->v9 φ ψ w0 F N m ρ0 ρ (Sk k) (Tk k) a w->c2.wp P Q a w):(Code.seq c1 c2).wp P Q a w:=by
 refine wp_seq (wp_mono h1 ?_)
 intro e a' w' hq
 cases e with
 |normal=>obtain⟨k,ρ',hp,_,Gk⟩:=hq;exact h2 k ρ' a' w' hp Gk
 |_=>exact hq
theorem aE9{κ:Type}{pre:κ->Prop}{Sk:κ->List It}{Tk:κ->List (Nat×AV)}(G:v9 φ ψ w0 F N m ρ0 ρ S tm a w)(k':κ)(hp:pre k')(js:List Nat)(S1:List It)(tm1:List (Nat×AV))(hs1:Sk k'=S1)(ht1:Tk k'=tm1)
  (hb:ai2 m js S1 tm1=true) (hS:js.map (p6 S)=S1.map (It.ren (nth js))) (ht:(tm1.map (·.1)).map (B9 tm)=tm1.map fun p=>some (p.2.ren (nth js))):
  ∃k' ρ',pre k'/\0<1/\v9 φ ψ w0 F N m ρ0 ρ' (Sk k') (Tk k') a w:=by
 subst hs1;subst ht1
 exact⟨k',_,hp,Nat.zero_lt_one,Inn.sel G js _ _ hb hS ht⟩
end
theorem bi7(op:Int)(r0:1<=op/\op<=13):j7.ok Tryz.prog (T7 121 [iA op] [] (.v (.string ⟨(m7 op).toArray⟩))):=
 aK3 fun φ w ρ h=>(ap9 op w r0.1 r0.2).mono fun e w' h=>h
theorem bw2(b:List UInt8)(j:Int)(r0:0<=j)(r1:j<=900000000):j7.ok Tryz.prog ⟨71,[.ptr 0 0],[.box [.ref 1,iA j],dY b],[.box [.ref 1,iA (j+1)],dY b],iA (nm b j vaL)⟩:=by
 refine H9 6 Tryz.func71 [.box [.ref 1,iA j],dY b] [(0,.ptr 0 0)] fun G=>?_;refine wp_seq (l6 G f8 [(2,iA 0)] fun G=>b6 (wp_seq (j9 G (v8 2 [0,1,10] (j7.lend (S5 b j ([0]++([1]++([2]++([3]++([255]++([128]++([7]++([4]++([100]++[]))))))))) (List.cons_ne_nil _ _) ai al) [.no,.no,.row 3])) [0,1] [.box [.ref 1,iA (j+1)],dY b] [(2,iA (nm b j ([0]++([1]++([2]++([3]++([255]++([128]++([7]++([4]++([100]++[])))))))))))] fun G=>b6 (wp_ret ?_))));exact O7 G [0,1]
theorem bZ5:∀x∈opL,1<=x/\x<=12:=ak
theorem cj4(b:List UInt8){j:Int}(r0:0<=j)(r1:j<=900000000):1<=nm b j opL/\nm b j opL<=12:=bZ5 _ (ay7 b r0 al (List.cons_ne_nil _ _))
abbrev rnC(b:List UInt8)(j:Int)(vs ars:List Int)(l:List d7)(at0 n:Int):j7:=⟨114,[.ptr 0 0,.agg [.ref 2,.ref 3,.ref 4],iA at0,iA n],[.box [.ref 1,iA j],dY b,dI vs,dI ars,dN l],[.box [.ref 1,iA (rnD b j vs.length ars.length at0 n).2],dY b,dI vs,dI ars,dN l],.agg [iA (rnD b j vs.length ars.length at0 n).1.op,iA (rnD b j vs.length ars.length at0 n).1.a,iA (rnD b j vs.length ars.length at0 n).1.b,iA (rnD b j vs.length ars.length at0 n).1.c,iA (rnD b j vs.length ars.length at0 n).1.d]⟩
theorem a32{x:UInt8}{m:Nat}(h:((x.toNat:Nat):Int)=m)(hm:m<256):x=UInt8.ofNat m:=by
 apply UInt8.toNat_inj.1
 rw[UInt8.toNat_ofNat']
 omega
section
variable{b:List UInt8}{j i at0 n X:Int}{nv na:Nat}{ks:List UInt8}{k:Nat}{x:UInt8}
theorem b93(hX:nm b j opL=X)(h:na=0)(h2:X=4\/X=5):opD b j na=2:=by unfold opD;rw[hX,if_pos ⟨h,h2⟩]
theorem b92(hX:nm b j opL=X)(h:¬na=0\/(¬X=4/\¬X=5)):opD b j na=X:=by unfold opD;rw[hX,if_neg al]
theorem bf4(b:List UInt8){i m:Int}(h0:0<=i)(h1:i<=1000000000):0<=pk b i m/\(pk b i m=0\/pk b i m<m):=by
 by_cases h:m<1
 ·rw[b87 h];omega
 have:=bC8 b h0 h1 (n:=m) al;omega
theorem ci4(h:((x.toNat:Nat):Int)=114):ptD b i nv na at0 n x=pk b i 3:=by
 rw[a32 (m:=114) h ak];rfl
theorem ci6(h:((x.toNat:Nat):Int)=99):ptD b i nv na at0 n x=nm b i vaL:=by
 rw[a32 (m:=99) h ak];rfl
theorem ci2(h:((x.toNat:Nat):Int)=118):ptD b i nv na at0 n x=pk b i nv:=by
 rw[a32 (m:=118) h ak];rfl
theorem ci7(h:((x.toNat:Nat):Int)=97):ptD b i nv na at0 n x=pk b i na:=by
 rw[a32 (m:=97) h ak];rfl
theorem ci5(h:((x.toNat:Nat):Int)=111):ptD b i nv na at0 n x=4+pk b i 7:=by
 rw[a32 (m:=111) h ak];rfl
theorem ci3(h1:¬((x.toNat:Nat):Int)=114)(h2:¬((x.toNat:Nat):Int)=99)(h3:¬((x.toNat:Nat):Int)=118)(h4:¬((x.toNat:Nat):Int)=97)(h5:¬((x.toNat:Nat):Int)=111):ptD b i nv na at0 n x=at0+1+pk b i (n-at0-1):=by
 unfold ptD
 rw[if_neg fun e=>h1 (by rw[e];rfl),if_neg fun e=>h2 (by rw[e];rfl),if_neg fun e=>h3 (by rw[e];rfl),if_neg fun e=>h4 (by rw[e];rfl),if_neg fun e=>h5 (by rw[e];rfl)]
theorem ci8{v:Int}(hk:k<4)(h:ptD b (j+k) nv na at0 n (ks.getD k 0)=v):psD b j nv na at0 n ks (k+1)=(psD b j nv na at0 n ks k).set k v:=by rw[bC5 b j nv na at0 n ks hk,h]
theorem bsz(l:List UInt8):(ByteArray.mk l.toArray).size=l.length:=by simp[ByteArray.size]
theorem ch2(ho:opD b j na=X)(hk:(m7 X).length<=k)(hk2:k<=(m7 X).length):rnD b j nv na at0 n=(⟨X,(psD b (j+1) nv na at0 n (m7 X) k).getD 0 0,(psD b (j+1) nv na at0 n (m7 X) k).getD 1 0,(psD b (j+1) nv na at0 n (m7 X) k).getD 2 0,(psD b (j+1) nv na at0 n (m7 X) k).getD 3 0⟩,j+1+k):=by
 have e:k=(m7 X).length:=al
 subst e
 unfold rnD
 rw[ho]
def RnR(b:List UInt8)(j at0 n:Int)(nv na:Nat)(R:Int->Nat->List Int):Prop:=∀X k,R X k=psD b (j+1) nv na at0 n (m7 X) k
variable{R:Int->Nat->List Int}
theorem RnR.len(h:RnR b j at0 n nv na R)(X:Int)(k:Nat):(R X k).length=4:=by rw[h X k,bn9]
theorem RnR.start(h:RnR b j at0 n nv na R)(X:Int):R X 0=[0,0,0,0]:=h X 0
theorem RnR.next(h:RnR b j at0 n nv na R){X v:Int}(hk:k<4)(hp:ptD b (j+1+k) nv na at0 n ((m7 X).getD k 0)=v):R X (k+1)=(R X k).set k v:=by rw[h X (k+1),h X k];exact ci8 hk hp
theorem RnR.done(h:RnR b j at0 n nv na R){X:Int}(ho:opD b j na=X)(hk:(m7 X).length<=k)(hk2:k<=(m7 X).length):rnD b j nv na at0 n=(⟨X,(R X k).getD 0 0,(R X k).getD 1 0,(R X k).getD 2 0,(R X k).getD 3 0⟩,j+1+k):=by rw[h X k];exact ch2 ho hk hk2
end
abbrev ap6(Y:Int):AV:=.v (.string (ByteArray.mk (m7 Y).toArray))
abbrev ad9:It:=.box [iA 0,iA 0,iA 0,iA 0,iA 0]
abbrev at6(Y:Int):It:=.box [iA Y,iA 0,iA 0,iA 0,iA 0]
abbrev aR7(j:Int)(k:Nat):It:=.box [.ref 1,iA (j+1+(k:Int)+1)]
abbrev O9(at0:Int)(n:Int)(r0:List (Nat×AV)):List (Nat×AV):=(0,.ptr 0 0)::(2,iA at0)::(3,iA n)::(5,.ptr 5 0)::(8,.ptr 6 0)::(9,.ptr 7 0)::r0
abbrev at3(b:List UInt8)(j:Int)(vs:List Int)(ars:List Int)(l:List d7)(r0:List It):List It:=.box [.ref 1,iA (j+1)]::dY b::dI vs::dI ars::dN l::.box (pL 2)::r0
theorem be1(b:List UInt8)(j:Int)(vs ars:List Int)(l:List d7)(at0 n X:Int)(hX:nm b j opL=X)(r0:0<=j)(r1:j<=800000000)(r2:0<=at0/\at0<=100)(r3:0<=n/\n<=100):j7.ok Tryz.prog (rnC b j vs ars l at0 n):=by
  have hnum:j7.ok Tryz.prog ⟨109,[.ptr 0 0,.ref 2],[.box [.ref 1,iA j],dY b,dI opL],[.box [.ref 1,iA (j+1)],dY b,dI opL],iA X⟩:=hX▸S5 b j opL (List.cons_ne_nil _ _) r0 al;refine H9 114 Tryz.func114 [.box [.ref 1,iA j],dY b,dI vs,dI ars,dN l] [(0,.ptr 0 0),(1,pA 2),(2,iA at0),(3,iA n)] fun G=>?_;obtain⟨R,hR⟩:∃x:Int->Nat->List Int,RnR b j at0 n vs.length ars.length x:=⟨_,fun _ _=>rfl⟩;have hRl:=hR.len;have hop:1<=X/\X<=12:=hX▸cj4 b r0 al;refine wp_seq (j9 G f8 [0,1,2,3,4,5,13] [.box [.ref 1,iA j],dY b,dI vs,dI ars,dN l,.box (pL 2),ad9] [(0,.ptr 0 0),(2,iA at0),(3,iA n),(5,.ptr 5 0),(8,.ptr 6 0)] fun G=>b6 (wp_seq (j9 G (v8 2 [0,1,15] (j7.lend hnum [.no,.no,.row 3])) [0,1,2,3,4,5,6,39] (at3 b j vs ars l [ad9,.box [iA X,iA 0,iA 0,iA 0,iA 0]]) (O9 at0 n []) fun G=>b6 ?_)));refine bN9 (κ:=Int) G (fun Y=>1<=Y/\Y<=12/\opD b j ars.length=Y) (fun Y=>(at3 b j vs ars l [.box [iA 0,iA 0,iA 0,iA 0,iA 0],.box [iA Y,iA 0,iA 0,iA 0,iA 0]])) (fun Y=>(O9 at0 n [])) ?_ ?_
  ·
   refine wp_seq ?_;cases h0:((ars.length:Int)==0)
   · have q0:=ne_of_beq_false h0;refine E8 G (K0 (fc h0 fz) (us [(5,8,0),(12,12,0),(1013,1013,0)])) (O9 at0 n [(30,bA false)]) fun G=>b6 (rF G false aj (wp_skip (b6 ?_)));exact aE9 G X (⟨al,al,b92 hX al⟩) (rg 8) (at3 b j vs ars l [.box [iA 0,iA 0,iA 0,iA 0,iA 0],.box [iA X,iA 0,iA 0,iA 0,iA 0]]) (O9 at0 n []) aj aj aj aj aj
   have q0:=eq_of_beq h0;cases h1:(X==4)
   ·
    have q1:=ne_of_beq_false h1;refine E8 G (K0 (fc h0 (fc h1 fz)) (us [(5,8,0),(9,11,1),(12,12,0),(1012,1012,1),(1013,1013,0)])) (O9 at0 n [(30,bA (X==5))]) fun G=>b6 (Q7 G (fun h2 q2=>?_) fun h2 q2=>?_)
    · refine wp_skip (b6 ?_);exact aE9 G X (⟨al,al,b92 hX al⟩) (rg 8) [.box [.ref 1,iA (j+1)],dY b,dI vs,dI ars,dN l,.box (pL 2),.box [iA 0,iA 0,iA 0,iA 0,iA 0],.box [iA X,iA 0,iA 0,iA 0,iA 0]] [(0,.ptr 0 0),(2,iA at0),(3,iA n),(5,.ptr 5 0),(8,.ptr 6 0),(9,.ptr 7 0)] aj aj aj aj aj
    refine j9 G f8 (rg 8) (at3 b j vs ars l [ad9,.box [iA 2,iA 0,iA 0,iA 0,iA 0]]) (O9 at0 n []) fun G=>b6 ?_;exact aE9 G 2 (⟨al,al,b93 hX al al⟩) (rg 8) (at3 b j vs ars l [.box [iA 0,iA 0,iA 0,iA 0,iA 0],.box [iA 2,iA 0,iA 0,iA 0,iA 0]]) (O9 at0 n []) aj aj aj aj aj
   have q1:=eq_of_beq h1;refine E8 G (K0 (fc h0 (fc h1 fz)) (us [(5,8,0),(9,11,1),(12,12,0),(1012,1012,1),(1013,1013,0)])) (O9 at0 n [(30,bA true)]) fun G=>b6 (rT G true aj (j9 G f8 (rg 8) (at3 b j vs ars l [ad9,.box [iA 2,iA 0,iA 0,iA 0,iA 0]]) (O9 at0 n []) fun G=>b6 ?_));exact aE9 G 2 (⟨al,al,b93 hX al al⟩) (rg 8) (at3 b j vs ars l [.box [iA 0,iA 0,iA 0,iA 0,iA 0],.box [iA 2,iA 0,iA 0,iA 0,iA 0]]) (O9 at0 n []) aj aj aj aj aj
  clear G;intro Y ρ a w hp G;replace G:=v9.at G (at3 b j vs ars l [ad9,at6 Y]) (O9 at0 n []);have hY:=hp;refine wp_seq (l6 G (v8 2 [] (bi7 Y al)) [(10,ap6 Y)] fun G=>b6 (wp_seq (j9 G f8 (rg 9) (at3 b j vs ars l [ad9,at6 Y,.row 3 (D.ints ([0]++([0]++([0]++([0]++[])))))]) (O9 at0 n [(10,ap6 Y),(11,.ref 8)]) fun G=>b6 (wp_seq (wp_seq (E8 G f8 (O9 at0 n [(10,ap6 Y),(11,.ref 8),(12,iA 0)]) fun G=>b6 (wp_block ?_)))))));replace G:=G.as [.box [.ref 1,iA (j+1+(0:Int))],dY b,dI vs,dI ars,dN l,.box (pL 2),.box [iA 0,iA 0,iA 0,iA 0,iA 0],.box [iA Y,iA 0,iA 0,iA 0,iA 0],.row 3 (D.ints (R Y 0))] (O9 at0 n [(10,.v (.string (ByteArray.mk (m7 Y).toArray))),(11,.ref 8),(12,iA 0)]) (by have e1:(j+1+(0:Int):Int)=(j+1):=al;have e2:(R Y 0:List Int)=([0]++([0]++([0]++([0]++[])))):=(hR.start _);(first|rw[e1,e2]|simp only[e1,e2])<;>rfl) aj;refine t9 (κ:=Nat) (fun k=>k<=(m7 Y).length) (fun k=>(m7 Y).length-k) (fun k=>[.box [.ref 1,iA (j+1+k)],dY b,dI vs,dI ars,dN l,.box (pL 2),.box [iA 0,iA 0,iA 0,iA 0,iA 0],.box [iA Y,iA 0,iA 0,iA 0,iA 0],.row 3 (.ints (R Y k))]) (fun k=>[(0,.ptr 0 0),(2,iA at0),(3,iA n),(5,.ptr 5 0),(8,.ptr 6 0),(9,.ptr 7 0),(10,.v (.string (ByteArray.mk (m7 Y).toArray))),(11,.ref 8),(12,iA k)]) 0 al (v9.at G _ _) ?_;clear G;intro k ρ a w hp G;replace G:=v9.at G [.box [.ref 1,iA (j+1+(k:Int))],dY b,dI vs,dI ars,dN l,.box (pL 2),ad9,at6 Y,.row 3 (D.ints (R Y k))] (O9 at0 n [(10,ap6 Y),(11,.ref 8),(12,iA k)]);have hfl:=as4 Y;have hbz:=bsz (m7 Y);refine wp_seq (wp_seq (l6 G f8 [(39,bA (decide ((k:Int)<((ByteArray.mk (m7 Y).toArray).size:Int))))] fun G=>b6 (rcD G (fun h3 q3=>?_) fun h3 q3=>?_)))
  · refine wp_exit (t7 (t7 (t5 (b6 (wp_seq (R3 G f8 [0,1,0,4,12,0,32,96,0,256,768,0,2048,6144,16383,32767] [0,1,2,3,4,6] [.box [.ref 1,iA (j+1+(k:Int))],dY b,dI vs,dI ars,dN l,.box [iA Y,iA ((R Y k).getD 0 0),iA ((R Y k).getD 1 0),iA ((R Y k).getD 2 0),iA ((R Y k).getD 3 0)]] [(8,.ptr 5 0)] [(0:Int)<=0,(0:Int)<((R Y k).length:Int),(0:Nat)<(R Y k).length,(0:Int)<=1,(1:Int)<((R Y k).length:Int),(1:Nat)<(R Y k).length,(0:Int)<=2,(2:Int)<((R Y k).length:Int),(2:Nat)<(R Y k).length,(0:Int)<=3,(3:Int)<((R Y k).length:Int),(3:Nat)<(R Y k).length] ⟨al,(by rw[hRl];decide),(by rw[hRl];decide),al,(by rw[hRl];decide),(by rw[hRl];decide),al,(by rw[hRl];decide),(by rw[hRl];decide),al,(by rw[hRl];decide),(by rw[hRl];decide),co8⟩ fun G=>b6 (wp_ret ?_)))))));exact Y0 (.agg [iA Y,iA ((R Y k).getD 0 0),iA ((R Y k).getD 1 0),iA ((R Y k).getD 2 0),iA ((R Y k).getD 3 0)]) G (rg 5) (by have e1:((rnD b j vs.length ars.length at0 n).fst.op:Int)=(Y):=(by rw[hR.done (k:=k) hY.2.2 al al];done);have e2:((rnD b j vs.length ars.length at0 n).fst.a:Int)=((R Y k).getD 0 0):=(by rw[hR.done (k:=k) hY.2.2 al al];done);have e3:((rnD b j vs.length ars.length at0 n).fst.b:Int)=((R Y k).getD 1 0):=(by rw[hR.done (k:=k) hY.2.2 al al];done);have e4:((rnD b j vs.length ars.length at0 n).fst.c:Int)=((R Y k).getD 2 0):=(by rw[hR.done (k:=k) hY.2.2 al al];done);have e5:((rnD b j vs.length ars.length at0 n).fst.d:Int)=((R Y k).getD 3 0):=(by rw[hR.done (k:=k) hY.2.2 al al];done);(first|rw[e1,e2,e3,e4,e5]|simp only[e1,e2,e3,e4,e5])<;>rfl) (by show _=mR (rg 5) [.box [.ref 1,iA (rnD b j vs.length ars.length at0 n).snd],dY b,dI vs,dI ars,dN l];rw[hR.done (k:=k) hY.2.2 al al]<;>rfl)
  refine wp_skip (b6 (wp_seq (wp_block (wp_seq (M8 G f8 [(44,.v (.int .u8 (((m7 Y).getD k 0).toNat:Int)))] [(0:Int)<=(k:Int),(k:Int)<((ByteArray.mk (m7 Y).toArray).size:Int)] ⟨al,ai,co8⟩ fun G=>b6 (wp_block (wp_seq (l6 G f8 [(57,bA ((((m7 Y).getD k 0).toNat:Int)==114))] fun G=>b6 (Q7 (u:=(((m7 Y).getD k (0:UInt8)).toNat:Int)) (v:=(114:Int)) G (fun h4 q4=>?_) fun h4 q4=>?_)))))))))
  ·
   refine wp_seq (l6 G f8 [(64,bA ((((m7 Y).getD k 0).toNat:Int)==99))] fun G=>b6 (Q7 (u:=(((m7 Y).getD k (0:UInt8)).toNat:Int)) (v:=(99:Int)) G (fun h5 q5=>?_) fun h5 q5=>?_))
   ·
    refine wp_seq (l6 G f8 [(71,bA ((((m7 Y).getD k 0).toNat:Int)==118))] fun G=>b6 (Q7 (u:=(((m7 Y).getD k (0:UInt8)).toNat:Int)) (v:=(118:Int)) G (fun h6 q6=>?_) fun h6 q6=>?_))
    ·
     refine wp_seq (l6 G f8 [(81,bA ((((m7 Y).getD k 0).toNat:Int)==97))] fun G=>b6 (Q7 (u:=(((m7 Y).getD k (0:UInt8)).toNat:Int)) (v:=(97:Int)) G (fun h7 q7=>?_) fun h7 q7=>?_))
     ·
      refine wp_seq (l6 G f8 [(91,bA ((((m7 Y).getD k 0).toNat:Int)==111))] fun G=>b6 (Q7 (u:=(((m7 Y).getD k (0:UInt8)).toNat:Int)) (v:=(111:Int)) G (fun h8 q8=>?_) fun h8 q8=>?_))
      · refine Z5 G (v8 9 [0,1] (C9 b (j+1+(k:Int)) (n-at0-1) al al)) (rg 9) [aR7 j k,dY b,dI vs,dI ars,dN l,.box (pL 2),ad9,at6 Y,.row 3 (D.ints ((R Y k).set k (at0+1+pk b (j+1+(k:Int)) (n-at0-1))))] (O9 at0 n [(10,ap6 Y),(11,.ref 8),(12,iA k)]) ((wO (at0+1))::((wO (n-at0))::((wO (n-at0-1))::((wO (at0+1+pk b (j+1+(k:Int)) (n-at0-1)))::(iX k k ((R Y k).length) []))))) ⟨oW al,⟨oW al,⟨oW al,⟨(by have h9:=bf4 b (i:=j+1+k) (m:=n-at0-1) al al;exact w64 al al),(iK (by rw[hRl];omega) co8)⟩⟩⟩⟩ fun G=>n4 (n4 (b6 (M8 G f8 [(12,iA ((k:Int)+1))] [wO ((k:Int)+1)] (o1 al) fun G=>b6 ?_)));exact R2 G (k+1) al al (rg 9) (by have e1:(j+1+(↑(k+1):Int):Int)=(j+1+(k:Int)+1):=al;have e2:(R Y (k+1):List Int)=((R Y k).set k (at0+1+pk b (j+1+(k:Int)) (n-at0-1))):=(hR.next al (ci3 ab ab ab ab ab));(first|rw[e1,e2]|simp only[e1,e2])<;>rfl)
      refine Z5 G (v8 3 [0,1] (C9 b (j+1+(k:Int)) 7 al al)) (rg 9) [aR7 j k,dY b,dI vs,dI ars,dN l,.box (pL 2),ad9,at6 Y,.row 3 (D.ints ((R Y k).set k (4+pk b (j+1+(k:Int)) 7)))] (O9 at0 n [(10,ap6 Y),(11,.ref 8),(12,iA k)]) ((wO ((4:Int)+pk b (j+1+(k:Int)) (7:Int)))::(iX k k ((R Y k).length) [])) ⟨(by have h9:=bf4 b (i:=j+1+k) (m:=7) al al;exact w64 al al),(iK (by rw[hRl];omega) co8)⟩ fun G=>n4 (n4 (b6 (M8 G f8 [(12,iA ((k:Int)+1))] [wO ((k:Int)+1)] (o1 al) fun G=>b6 ?_)));exact R2 G (k+1) al al (rg 9) (by have e1:(j+1+(↑(k+1):Int):Int)=(j+1+(k:Int)+1):=al;have e2:(R Y (k+1):List Int)=((R Y k).set k (4+pk b (j+1+(k:Int)) 7)):=(hR.next al (ci5 ab));(first|rw[e1,e2]|simp only[e1,e2])<;>rfl)
     refine Z5 G (v8 6 [0,1] (C9 b (j+1+(k:Int)) ((ars.length:Int)) al al)) (rg 9) [aR7 j k,dY b,dI vs,dI ars,dN l,.box (pL 2),ad9,at6 Y,.row 3 (D.ints ((R Y k).set k (pk b (j+1+(k:Int)) (ars.length:Int))))] (O9 at0 n [(10,ap6 Y),(11,.ref 8),(12,iA k)]) (iX k k ((R Y k).length) []) (iK (by rw[hRl];omega) co8) fun G=>n4 (n4 (b6 (M8 G f8 [(12,iA ((k:Int)+1))] [wO ((k:Int)+1)] (o1 al) fun G=>b6 ?_)));exact R2 G (k+1) al al (rg 9) (by have e1:(j+1+(↑(k+1):Int):Int)=(j+1+(k:Int)+1):=al;have e2:(R Y (k+1):List Int)=((R Y k).set k (pk b (j+1+(k:Int)) (ars.length:Int))):=(hR.next al (ci7 ab));(first|rw[e1,e2]|simp only[e1,e2])<;>rfl)
    refine Z5 G (v8 6 [0,1] (C9 b (j+1+(k:Int)) ((vs.length:Int)) al al)) (rg 9) [aR7 j k,dY b,dI vs,dI ars,dN l,.box (pL 2),ad9,at6 Y,.row 3 (D.ints ((R Y k).set k (pk b (j+1+(k:Int)) (vs.length:Int))))] (O9 at0 n [(10,ap6 Y),(11,.ref 8),(12,iA k)]) (iX k k ((R Y k).length) []) (iK (by rw[hRl];omega) co8) fun G=>n4 (n4 (b6 (M8 G f8 [(12,iA ((k:Int)+1))] [wO ((k:Int)+1)] (o1 al) fun G=>b6 ?_)));exact R2 G (k+1) al al (rg 9) (by have e1:(j+1+(↑(k+1):Int):Int)=(j+1+(k:Int)+1):=al;have e2:(R Y (k+1):List Int)=((R Y k).set k (pk b (j+1+(k:Int)) (vs.length:Int))):=(hR.next al (ci2 ab));(first|rw[e1,e2]|simp only[e1,e2])<;>rfl)
   refine Z5 G (v8 3 [0,1] (bw2 b (j+1+(k:Int)) al al)) (rg 9) [aR7 j k,dY b,dI vs,dI ars,dN l,.box (pL 2),ad9,at6 Y,.row 3 (D.ints ((R Y k).set k (nm b (j+1+(k:Int)) vaL)))] (O9 at0 n [(10,ap6 Y),(11,.ref 8),(12,iA k)]) (iX k k ((R Y k).length) []) (iK (by rw[hRl];omega) co8) fun G=>n4 (n4 (b6 (M8 G f8 [(12,iA ((k:Int)+1))] [wO ((k:Int)+1)] (o1 al) fun G=>b6 ?_)));exact R2 G (k+1) al al (rg 9) (by have e1:(j+1+(↑(k+1):Int):Int)=(j+1+(k:Int)+1):=al;have e2:(R Y (k+1):List Int)=((R Y k).set k (nm b (j+1+(k:Int)) vaL)):=(hR.next al (ci6 ab));(first|rw[e1,e2]|simp only[e1,e2])<;>rfl)
  refine Z5 G (v8 3 [0,1] (C9 b (j+1+(k:Int)) 3 al al)) (rg 9) [aR7 j k,dY b,dI vs,dI ars,dN l,.box (pL 2),ad9,at6 Y,.row 3 (D.ints ((R Y k).set k (pk b (j+1+(k:Int)) 3)))] (O9 at0 n [(10,ap6 Y),(11,.ref 8),(12,iA k)]) (iX k k ((R Y k).length) []) (iK (by rw[hRl];omega) co8) fun G=>n4 (n4 (b6 (M8 G f8 [(12,iA ((k:Int)+1))] [wO ((k:Int)+1)] (o1 al) fun G=>b6 ?_)));exact R2 G (k+1) al al (rg 9) (by have e1:(j+1+(↑(k+1):Int):Int)=(j+1+(k:Int)+1):=al;have e2:(R Y (k+1):List Int)=((R Y k).set k (pk b (j+1+(k:Int)) 3)):=(hR.next al (ci4 ab));(first|rw[e1,e2]|simp only[e1,e2])<;>rfl)
theorem bi5(b:List UInt8)(j:Int)(vs ars:List Int)(l:List d7)(at0 n:Int)(r0:0<=j)(r1:j<=800000000)(r2:0<=at0/\at0<=100)(r3:0<=n/\n<=100):j7.ok Tryz.prog (rnC b j vs ars l at0 n):=be1 b j vs ars l at0 n _ rfl r0 r1 r2 r3
def cdF(F:c5->Int):List c5->Int
 |[]=>0
 |s::r=>if F s=0 then cdF F r else F s
def cdS(vs ars:List Int)(strict:Bool):Nat->Int->c5->Int
 |0,_,_=>0
 | d + 1, pc, s => if ab8 ⟨vs, ars, []⟩ s pc strict = 0 then
   (if cdF (cdS vs ars strict d (al3 ⟨vs,ars,[]⟩ s pc)) s.body=0 then cdF (cdS vs ars strict d (al3 ⟨vs,ars,[]⟩ s pc)) s.els else cdF (cdS vs ars strict d (al3 ⟨vs,ars,[]⟩ s pc)) s.body)
  else ab8 ⟨vs,ars,[]⟩ s pc strict
theorem bi3{F:c5->Int}{G:Nat->c5->Int×Nat}(h:∀c s,(G c s).1=F s):∀(ss:List c5) (c:Nat),(G0 G c ss).1=cdF F ss
 |[],_=>rfl
 |s::r,c=>by
  rw[G0,cdF,h]
  split
  ·exact bi3 h r _
  exact h c s
theorem bJ7(p:i7)(strict:Bool):∀(d:Nat) (pc:Int) (c:Nat) (s:c5),(stC p strict d pc c s).1=cdS p.vars p.arrays strict d pc s
 |0,_,_,_=>rfl
 | d + 1, pc, c, s => by
  have e1:ab8 p s pc strict=ab8 ⟨p.vars,p.arrays,[]⟩ s pc strict:=rfl
  have e2:al3 p s pc=al3 ⟨p.vars,p.arrays,[]⟩ s pc:=rfl
  have h1:=fun ss c=>bi3 (bJ7 p strict d (al3 p s pc)) ss c
  rw[stC,cdS, <-e1, <-e2]
  split
  ·rw[h1]
   split
   ·rw[h1]
   rw[h1]
  rfl
theorem b34(p:i7)(strict:Bool)(d:Nat)(pc:Int)(c:Nat)(ss:List c5):(x8 p strict d pc c ss).1=cdF (cdS p.vars p.arrays strict d pc) ss:=bi3 (bJ7 p strict d pc) ss c
theorem a98{F:c5->Int}:∀{ss:List c5},cdF F ss=0↔∀s∈ss,F s=0
 |[]=>by simp[cdF]
 | s :: r => by
  rw[cdF]
  by_cases h:F s=0
  ·rw[if_pos h,a98]
   simp[h]
  rw[if_neg h]
  simp[h]
theorem bS1(p:i7)(strict:Bool):(X4 p strict).1=if l9 p=true then cdF (cdS p.vars p.arrays strict 5 0) p.body else 5:=by
 unfold X4
 rw[<-b34 p strict 5 0 0]
 split
 ·split
  ·rename_i h;exact h.symm
  rfl
 rfl
theorem bR9(p:i7)(strict:Bool):(X4 p strict).1=0↔l9 p=true/\∀s∈p.body,cdS p.vars p.arrays strict 5 0 s=0:=by
 rw[bS1]
 split
 ·rename_i h;rw[a98];exact⟨fun h1=>⟨h,h1⟩,fun h1=>h1.2⟩
 rename_i h;exact⟨fun h1=>absurd h1 ak,fun h1=>absurd h1.1 h⟩
section
variable{vs ars:List Int}{l:Int}{s:c5}{pc pd:Int}
end
theorem ay5{p:i7}(h:l9 p=true):p.vars.all i8=true/\p.arrays.all i8=true/\1<=p.vars.length/\p.body.all (j6 p.vars.length p.arrays.length 5)=true:=by
 unfold l9 G5 at h
 simp only[cm9,decide_eq_true_eq]at h
 exact⟨h.1.1.1.1.1.1,h.1.1.1.1.1.2,h.1.1.1.1.2,h.1.2⟩
abbrev nnE:c6:=⟨0,0,[]⟩
abbrev cnE(n:Int):c6:=⟨1,n,[]⟩
abbrev vrE(v:Int):c6:=⟨2,v,[]⟩
abbrev rdE(a:Int)(i:c6):c6:=⟨3,a,[i]⟩
abbrev ai7(i:c6)(k:Int):c6:=⟨9,0,[⟨7,0,[i,cnE 3]⟩,cnE k]⟩
abbrev seE(a b c:c6):c6:=⟨11,0,[a,b,c]⟩
abbrev Y3(v:Int)(e:c6):c5:=⟨1,v,nnE,e,0,[],[]⟩
def D5(m:Int)(e f:c6):c6:=if m<0 then e else seE (vrE m) e f
def rdL(v a:Int)(i:c6):Nat->List c5
 |0=>[Y3 v (rdE a (cnE 0))]
 |k+1=>rdL v a i k++[Y3 v (seE (ai7 i ((k:Int)+1)) (rdE a (cnE ((k:Int)+1))) (vrE v))]
def stL(v t:Int)(i:c6)(m:Int):Nat->List c5
 |0=>[]
 |k+1=>stL v t i m k++[⟨2,t,cnE (k:Int),seE (D5 m (ai7 i (k:Int)) (cnE 0)) (vrE v) (rdE t (cnE (k:Int))),0,[],[]⟩]
abbrev LnS:Type:=List Int×List c5
mutual
def d8(ars:List Int)(pc:Int):c6->LnS->LnS×c6
 | ⟨k, v, ks⟩, s =>
  if k=3/\ad3 (i9 (z4 ars pc ks s).1.1 ars 5 (ks.getD 0 cm7))=true then
   (((z4 ars pc ks s).1.1++[l5 (i9 (z4 ars pc ks s).1.1 ars 5 ⟨k,v,ks⟩) pc],(z4 ars pc ks s).1.2++rdL ((z4 ars pc ks s).1.1.length:Int) v (ks.getD 0 cm7) 3),vrE ((z4 ars pc ks s).1.1.length:Int))
  else((z4 ars pc ks s).1,⟨k,v,(z4 ars pc ks s).2⟩)
def z4(ars:List Int)(pc:Int):List c6->LnS->LnS×List c6
 |[],s=>(s,[])
 |e::t,s=>((z4 ars pc t (d8 ars pc e s).1).1,(d8 ars pc e s).2::(z4 ars pc t (d8 ars pc e s).1).2)
end
theorem aL4(ars:List Int)(pc:Int)(e:c6)(s:LnS):d8 ars pc e s=
  if e.kind=3/\ad3 (i9 (z4 ars pc e.kids s).1.1 ars 5 (e.kids.getD 0 cm7))=true then
   (((z4 ars pc e.kids s).1.1++[l5 (i9 (z4 ars pc e.kids s).1.1 ars 5 e) pc],(z4 ars pc e.kids s).1.2++rdL ((z4 ars pc e.kids s).1.1.length:Int) e.value (e.kids.getD 0 cm7) 3),vrE ((z4 ars pc e.kids s).1.1.length:Int))
  else((z4 ars pc e.kids s).1,⟨e.kind,e.value,(z4 ars pc e.kids s).2⟩):=by
 cases e;rw[d8];rfl
theorem av4(ars:List Int)(pc:Int):∀(a b:List c6) (s:LnS),z4 ars pc (a++b) s=((z4 ars pc b (z4 ars pc a s).1).1,(z4 ars pc a s).2++(z4 ars pc b (z4 ars pc a s).1).2)
 |[],b,s=>by simp[z4]
 |e::t,b,s=>by
  simp only[List.cons_append,z4]
  rw[av4 ars pc t b]
theorem as0{ars:List Int}{pc:Int}{ks:List c6}{k:Nat}{s:LnS}(hk:k<ks.length):z4 ars pc (ks.take (k+1)) s=((d8 ars pc (ks.getD k cm7) (z4 ars pc (ks.take k) s).1).1,(z4 ars pc (ks.take k) s).2++[(d8 ars pc (ks.getD k cm7) (z4 ars pc (ks.take k) s).1).2]):=by
 rw[n7 _ _ hk,av4,m6 hk]
 simp[z4]
abbrev ifM(x:LnS×c6)(m l:Int):LnS:=(x.1.1++[l]++[l],x.1.2++[Y3 (x.1.1.length:Int) (D5 m x.2 (cnE 0))]++[Y3 ((x.1.1++[l]).length:Int) (D5 m ⟨9,0,[vrE (x.1.1.length:Int),cnE 0]⟩ (cnE 0))])
mutual
def I9(ars:List Int):c5->Int->Int->LnS->LnS
 | ⟨k, t, i, v, c, b, e⟩, m, pc, s =>
  if k=4 then((m5 ars b m pc (s.1,[])).1,s.2++[⟨4,0,nnE,nnE,c,(m5 ars b m pc (s.1,[])).2,[]⟩])
  else if k=3 then
   (if ad3 (i9 s.1 ars 5 v)=true then
    m5 ars e (((d8 ars pc v s).1.1++[l5 pc (i9 s.1 ars 5 v)]).length:Int) (l5 pc (i9 s.1 ars 5 v)) (m5 ars b ((d8 ars pc v s).1.1.length:Int) (l5 pc (i9 s.1 ars 5 v)) (ifM (d8 ars pc v s) m (l5 pc (i9 s.1 ars 5 v))))
   else((m5 ars e m (l5 pc (i9 s.1 ars 5 v)) ((m5 ars b m (l5 pc (i9 s.1 ars 5 v)) ((d8 ars pc v s).1.1,[])).1,[])).1,
    (d8 ars pc v s).1.2++[⟨3,0,nnE,(d8 ars pc v s).2,0,(m5 ars b m (l5 pc (i9 s.1 ars 5 v)) ((d8 ars pc v s).1.1,[])).2,(m5 ars e m (l5 pc (i9 s.1 ars 5 v)) ((m5 ars b m (l5 pc (i9 s.1 ars 5 v)) ((d8 ars pc v s).1.1,[])).1,[])).2⟩]))
  else if k=5 then((d8 ars pc v s).1.1,(d8 ars pc v s).1.2++[⟨5,t,nnE,(d8 ars pc v s).2,0,[],[]⟩])
  else if k=1 then((d8 ars pc v s).1.1,(d8 ars pc v s).1.2++[Y3 t (D5 m (d8 ars pc v s).2 (vrE t))])
  else if ad3 (i9 (d8 ars pc v s).1.1 ars 5 i)=true then
   ((d8 ars pc v s).1.1++[l5 (i9 (d8 ars pc v s).1.1 ars 5 (d8 ars pc v s).2) pc],(d8 ars pc v s).1.2++[Y3 ((d8 ars pc v s).1.1.length:Int) (d8 ars pc v s).2]++stL ((d8 ars pc v s).1.1.length:Int) t i m 4)
  else((d8 ars pc v s).1.1,(d8 ars pc v s).1.2++[⟨2,t,i,D5 m (d8 ars pc v s).2 (rdE t i),0,[],[]⟩])
def m5(ars:List Int):List c5->Int->Int->LnS->LnS
 |[],_,_,s=>s
 |x::r,m,pc,s=>m5 ars r m pc (I9 ars x m pc s)
end
theorem a68(ars:List Int)(a b:List c5)(m pc:Int)(s:LnS):m5 ars (a++b) m pc s=m5 ars b m pc (m5 ars a m pc s):=by
 induction a generalizing s with
 |nil=>rfl
 |cons x r ih=>simp only[List.cons_append,m5];exact ih _
theorem bu7{ars:List Int}{ss:List c5}{k:Nat}{m pc:Int}{s:LnS}(hk:k<ss.length):m5 ars (ss.take (k+1)) m pc s=I9 ars (ss.getD k cm7) m pc (m5 ars (ss.take k) m pc s):=by
 rw[n7 _ _ hk,a68,m6 hk]
 simp[m5]
section
variable{ars:List Int}{s:c5}{m pc:Int}{x:LnS}
theorem ln4(k:s.kind=4):I9 ars s m pc x=((m5 ars s.body m pc (x.1,[])).1,x.2++[⟨4,0,nnE,nnE,s.count,(m5 ars s.body m pc (x.1,[])).2,[]⟩]):=by
 obtain⟨kd,tg,ix,vl,ct,bd,el⟩:=s
 have k:kd=4:=k
 rw[I9,if_pos k];rfl
theorem ca7(k:s.kind=3)(h:ad3 (i9 x.1 ars 5 s.value)=true):I9 ars s m pc x=m5 ars s.els (((d8 ars pc s.value x).1.1++[l5 pc (i9 x.1 ars 5 s.value)]).length:Int) (l5 pc (i9 x.1 ars 5 s.value)) (m5 ars s.body ((d8 ars pc s.value x).1.1.length:Int) (l5 pc (i9 x.1 ars 5 s.value)) (ifM (d8 ars pc s.value x) m (l5 pc (i9 x.1 ars 5 s.value)))):=by
 obtain⟨kd,tg,ix,vl,ct,bd,el⟩:=s
 have k:kd=3:=k
 have h:ad3 (i9 x.1 ars 5 vl)=true:=h
 rw[I9,if_neg al,if_pos k,if_pos h];rfl
theorem ca8(k:s.kind=3)(h:ad3 (i9 x.1 ars 5 s.value)=false):I9 ars s m pc x=((m5 ars s.els m (l5 pc (i9 x.1 ars 5 s.value)) ((m5 ars s.body m (l5 pc (i9 x.1 ars 5 s.value)) ((d8 ars pc s.value x).1.1,[])).1,[])).1,
  (d8 ars pc s.value x).1.2++[⟨3,0,nnE,(d8 ars pc s.value x).2,0,(m5 ars s.body m (l5 pc (i9 x.1 ars 5 s.value)) ((d8 ars pc s.value x).1.1,[])).2,(m5 ars s.els m (l5 pc (i9 x.1 ars 5 s.value)) ((m5 ars s.body m (l5 pc (i9 x.1 ars 5 s.value)) ((d8 ars pc s.value x).1.1,[])).1,[])).2⟩]):=by
 obtain⟨kd,tg,ix,vl,ct,bd,el⟩:=s
 have k:kd=3:=k
 have h:ad3 (i9 x.1 ars 5 vl)=false:=h
 rw[I9,if_neg al,if_pos k,if_neg (by rw[h];decide)];rfl
theorem ln5(k:s.kind=5):I9 ars s m pc x=((d8 ars pc s.value x).1.1,(d8 ars pc s.value x).1.2++[⟨5,s.target,nnE,(d8 ars pc s.value x).2,0,[],[]⟩]):=by
 obtain⟨kd,tg,ix,vl,ct,bd,el⟩:=s
 have k:kd=5:=k
 rw[I9,if_neg al,if_neg al,if_pos k];rfl
theorem ln1(k:s.kind=1):I9 ars s m pc x=((d8 ars pc s.value x).1.1,(d8 ars pc s.value x).1.2++[Y3 s.target (D5 m (d8 ars pc s.value x).2 (vrE s.target))]):=by
 obtain⟨kd,tg,ix,vl,ct,bd,el⟩:=s
 have k:kd=1:=k
 rw[I9,if_neg al,if_neg al,if_neg al,if_pos k];rfl
theorem ca9(k:s.kind=2)(h:ad3 (i9 (d8 ars pc s.value x).1.1 ars 5 s.index)=true):I9 ars s m pc x=((d8 ars pc s.value x).1.1++[l5 (i9 (d8 ars pc s.value x).1.1 ars 5 (d8 ars pc s.value x).2) pc],(d8 ars pc s.value x).1.2++[Y3 ((d8 ars pc s.value x).1.1.length:Int) (d8 ars pc s.value x).2]++stL ((d8 ars pc s.value x).1.1.length:Int) s.target s.index m 4):=by
 obtain⟨kd,tg,ix,vl,ct,bd,el⟩:=s
 have k:kd=2:=k
 have h:ad3 (i9 (d8 ars pc vl x).1.1 ars 5 ix)=true:=h
 rw[I9,if_neg al,if_neg al,if_neg al,if_neg al,if_pos h];rfl
theorem cb0(k:s.kind=2)(h:ad3 (i9 (d8 ars pc s.value x).1.1 ars 5 s.index)=false):I9 ars s m pc x=((d8 ars pc s.value x).1.1,(d8 ars pc s.value x).1.2++[⟨2,s.target,s.index,D5 m (d8 ars pc s.value x).2 (rdE s.target s.index),0,[],[]⟩]):=by
 obtain⟨kd,tg,ix,vl,ct,bd,el⟩:=s
 have k:kd=2:=k
 have h:ad3 (i9 (d8 ars pc vl x).1.1 ars 5 ix)=false:=h
 rw[I9,if_neg al,if_neg al,if_neg al,if_neg al,if_neg (by rw[h];decide)];rfl
end
theorem G3{nv nw na:Nat}(h:nv<=nw):∀(d:Nat) (e:c6),i6 nv na d e=true->i6 nw na d e=true
 |0,_,hs=>by simp[i6]at hs
 |d+1,e,hs=>by
  simp only[i6,cm9,cn8]at hs ⊢
  refine⟨⟨?_,fun x hx=>G3 h d x (hs.1.2 x hx)⟩,hs.2⟩
  have h1:=hs.1.1
  simp only[U0,cm9,decide_eq_true_eq]at h1 ⊢
  refine⟨h1.1,Int.lt_of_lt_of_le h1.2 ?_⟩
  unfold X2
  (repeat' split)<;>omega
theorem aJ0{nv na:Nat}:∀(d:Nat) (e:c6),i6 nv na d e=true->i6 nv na (d+1) e=true
 |0,_,hs=>by simp[i6]at hs
 |d+1,e,hs=>by
  rw[i6]at hs ⊢
  simp only[cm9,cn8]at hs ⊢
  exact⟨⟨hs.1.1,fun x hx=>aJ0 d x (hs.1.2 x hx)⟩,hs.2⟩
theorem a41{nv na c d:Nat}{e:c6}(h:c<=d)(hs:i6 nv na c e=true):i6 nv na d e=true:=by
 induction d with
 |zero=>rwa[show c=0 by omega]at hs
 |succ d ih=>
  rcases cp1 c (d+1)with hl|hl
  ·exact aJ0 d e (ih al)
  rwa[show c=d+1 by omega]at hs
theorem aO8{ars:List Int}{pc:Int}{nv na d:Nat}{e:c6}{s:LnS}(ha:atomB e=true)(hs:i6 nv na d e=true):d8 ars pc e s=(s,e)/\e.kids=[]:=by
 obtain⟨k,v,ks⟩:=e
 cases d with
 |zero=>simp[i6]at hs
 | succ d =>
  have hk:k=1\/k=2:=by
   have h:=ha
   simp only[atomB,cr2,decide_eq_true_eq]at h
   exact h
  have hn:ks=[]:=by
   simp only[i6,U0,cm9,decide_eq_true_eq]at hs
   have h1:=hs.1.1.1.1
   have h2:t6 k=0:=by unfold t6;rw[if_pos hk]
   have h3:(ks.length:Int)=0:=h1.trans h2
   exact co7 al
  subst hn
  refine⟨?_,rfl⟩
  rw[d8,if_neg al]
  rfl
theorem a55{nv na d:Nat}{e:c6}(k:e.kind=3)(hs:i6 nv na (d+1) e=true):∃a,e.kids=[a]/\atomB a=true/\i6 nv na d a=true/\a.kids=[]:=by
 obtain⟨kd,v,ks⟩:=e
 have k:kd=3:=k
 subst k
 simp only[i6,U0,cm9,decide_eq_true_eq]at hs
 have h1:(ks.length:Int)=1:=hs.1.1.1.1
 match ks,h1,hs with
 | [a], _, hs =>
  have h2:atomB a=true:=by
   have h:=hs.2
   unfold aB7 at h
   have h:(decide ((3:Int)≠3)||atomB a)=true:=h
   simpa using h
  have h3:i6 nv na d a=true:=cn8.1 hs.1.2 a (cq2.2 rfl)
  exact⟨a,rfl,h2,h3,(aO8 (ars:=[]) (pc:=0) (s:=([],[])) h2 h3).2⟩
theorem a54{ars:List Int}{pc:Int}{nv na d:Nat}{e:c6}{s:LnS}(k:e.kind=3)(hs:i6 nv na (d+1) e=true):z4 ars pc e.kids s=(s,e.kids):=by
 obtain⟨a,h1,h2,h3,-⟩:=a55 k hs
 rw[h1]
 have:=aO8 (ars:=ars) (pc:=pc) (s:=s) h2 h3
 simp only[z4,this.1]
structure Grw(nv na d:Nat)(sz:Nat)(s:LnS)(r:LnS):Prop where
 lo:s.1.length<=r.1.length
 hi:r.1.length<=s.1.length+sz
 st:j5 r.2<=j5 s.2+40*sz
 len:s.2.length<=r.2.length
theorem bC0(v a:Int)(i:c6)(hi:i.kids=[]):∀n:Nat,j5 (rdL v a i n)=2+9*n
 |0=>rfl
 |n+1=>by
  have h0:A6 i=0:=by cases i;simp only[c6.kids]at hi;subst hi;rfl
  rw[rdL,y6,bC0 v a i hi n]
  simp[j5,M4,A6,F4,h0];omega
theorem aY4(v a:Int)(i:c6):∀n:Nat,(rdL v a i n).length=n+1
 |0=>rfl
 |n+1=>by rw[rdL,cn3,aY4 v a i n];rfl
theorem bm8(v t:Int)(i:c6)(m:Int):∀n:Nat,(stL v t i m n).length=n
 |0=>rfl
 |n+1=>by rw[stL,cn3,bm8 v t i m n];rfl
theorem ag1(m:Int)(e f:c6):A6 (D5 m e f)<=3+A6 e+A6 f:=by
 unfold D5;split
 ·omega
 simp[A6,F4];omega
theorem bA0(v t:Int)(i:c6)(m:Int)(hi:i.kids=[]):∀n:Nat,j5 (stL v t i m n)<=20*n
 |0=>cn4 _
 |n+1=>by
  have h0:A6 i=0:=by cases i;simp only[c6.kids]at hi;subst hi;rfl
  have h1:=bA0 v t i m hi n
  have h2:=ag1 m (ai7 i (n:Int)) (cnE 0)
  have h3:A6 (ai7 i (n:Int))=4:=by simp[A6,F4,h0]
  have h4:A6 (cnE 0)=0:=rfl
  rw[stL,y6]
  simp only[j5,M4,A6,F4]
  omega
theorem bs4{nv na d:Nat}{v:Nat}(h:v<nv):i6 nv na (d+1) (vrE (v:Int))=true:=by
 simp[i6,U0,aB7,t6,X2,c6.kids,c6.kind,c6.value,h]
theorem bo9{ars:List Int}{pc:Int}{na d:Nat}(hg:∀(e:c6) (s:LnS),i6 s.1.length na d e=true->Grw s.1.length na d (1+A6 e) s (d8 ars pc e s).1/\i6 (d8 ars pc e s).1.1.length na d (d8 ars pc e s).2=true/\A6 (d8 ars pc e s).2<=A6 e):
  ∀(ks:List c6) (s:LnS),(∀x∈ks,i6 s.1.length na d x=true)->Grw s.1.length na d (F4 ks) s (z4 ars pc ks s).1/\(∀x∈(z4 ars pc ks s).2,i6 (z4 ars pc ks s).1.1.length na d x=true)/\F4 (z4 ars pc ks s).2<=F4 ks/\(z4 ars pc ks s).2.length=ks.length:=by
 intro ks
 induction ks with
 |nil=>intro s _;exact⟨⟨cn4 _,cn4 _,cn4 _,cn4 _⟩,fun x hx=>(by cases hx),cn4 _,rfl⟩
 | cons x r ih =>
  intro s h
  obtain⟨g1,g2,g3⟩:=hg x s (h x cr0)
  obtain⟨k1,k2,k3,k4⟩:=ih (d8 ars pc x s).1 fun y hy=>G3 g1.lo d y (h y (cq8 _ hy))
  simp only[z4,F4]
  refine⟨⟨cp4 g1.lo k1.lo,?_,?_,cp4 g1.len k1.len⟩,?_,?_,?_⟩
  ·have:=g1.hi;have:=k1.hi;omega
  ·have:=g1.st;have:=k1.st;omega
  ·intro y hy
   rcases cq9.1 hy with rfl|hy
   ·exact G3 k1.lo d _ g2
   exact k2 y hy
  ·omega
  simp[k4]
theorem an5(ars:List Int)(pc:Int)(na:Nat):∀(d:Nat) (e:c6) (s:LnS),i6 s.1.length na d e=true->
  Grw s.1.length na d (1+A6 e) s (d8 ars pc e s).1/\i6 (d8 ars pc e s).1.1.length na d (d8 ars pc e s).2=true/\A6 (d8 ars pc e s).2<=A6 e
 |0,_,_,hs=>by simp[i6]at hs
 | d + 1, e, s, hs => by
  have key:=bo9 (ars:=ars) (pc:=pc) (na:=na) (d:=d) fun e s h=>an5 ars pc na d e s h
  have hs0:=hs
  rw[i6]at hs
  simp only[cm9,cn8]at hs
  obtain⟨g1,g2,g3,g4⟩:=key e.kids s hs.1.2
  rw[aL4]
  split
  ·rename_i h
   obtain⟨a,h1,h2,h3,h4⟩:=a55 h.1 hs0
   have hz:A6 e=1:=by
    rw[N1,h1]
    have:A6 a=0:=by rw[N1,h4];rfl
    simp[F4,this]
   have hr:=a54 (ars:=ars) (pc:=pc) (s:=s) h.1 hs0
   have e0:e.kids.getD 0 cm7=a:=by rw[h1];rfl
   rw[hr,e0]
   refine⟨⟨?_,?_,?_,?_⟩,?_,?_⟩
   ·simp
   ·simp
   ·simp only[y6,bC0 _ _ a h4];omega
   ·simp
   ·have:i6 (s.1.length+1) na (d+1) (vrE (s.1.length:Int))=true:=bs4 al
    simpa using this
   exact cp5 _
  rename_i h
  refine⟨⟨g1.lo,?_,?_,g1.len⟩,?_,?_⟩
  ·have:=g1.hi;rw[N1];show(z4 ars pc e.kids s).1.1.length<=_;omega
  ·have:=g1.st;rw[N1];show j5 (z4 ars pc e.kids s).1.2<=_;omega
  ·rw[i6]
   simp only[cm9,cn8]
   refine⟨⟨?_,g2⟩,?_⟩
   ·have h1:=hs.1.1
    simp only[U0,cm9,decide_eq_true_eq]at h1 ⊢
    refine⟨⟨?_,h1.1.2⟩,Int.lt_of_lt_of_le h1.2 ?_⟩
    ·show(((z4 ars pc e.kids s).2.length:Nat):Int)=t6 e.kind
     rw[g4];exact h1.1.1
    show X2 s.1.length na e.kind<=X2 (z4 ars pc e.kids s).1.1.length na e.kind
    have:=g1.lo
    unfold X2
    (repeat' split)<;>omega
   by_cases k:e.kind=3
   ·rw[a54 (ars:=ars) (pc:=pc) (s:=s) k hs0]
    show aB7 ⟨e.kind,e.value,e.kids⟩=true
    rw[c6.eta];exact hs.2
   unfold aB7;rw[cr2];exact .inl (decide_eq_true k)
  rw[N1 e];exact g3
end Go.Proofs.YtfbeblgnjeokaaaGreat
