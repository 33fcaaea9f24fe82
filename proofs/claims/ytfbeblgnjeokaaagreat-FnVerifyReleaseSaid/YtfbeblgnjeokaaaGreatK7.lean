/- Part 7: functions on the way, plain laws. Conditions: as said. -/
import Derived.Deep.RegionWith
import Derived.Laws.StructEq
import Derived.Test.YtfbeblgnjeokaaaGreatK1
import Derived.Test.YtfbeblgnjeokaaaGreatK2
import Derived.Test.YtfbeblgnjeokaaaGreatK3
import Derived.Test.YtfbeblgnjeokaaaGreatK4
import Derived.Test.YtfbeblgnjeokaaaGreatK5
import Derived.Test.YtfbeblgnjeokaaaGreatK6
set_option maxRecDepth 100000
set_option maxHeartbeats 16000000
set_option linter.unusedVariables false
set_option linter.unusedSimpArgs false
open Bool renaming and_eq_true → cD5, not_eq_false' → cG1, not_eq_true' → cF7
open Inhabited renaming default → cD4
open List renaming all_eq_true → cE2, append_assoc → cI0, getD_eq_getElem?_getD → cD7, getElem?_eq_getElem → cD8, getElem?_eq_none → cF6, getElem?_eq_some_iff → cE7, getElem?_set → cH9, getElem_mem → cF3, length_append → cE0, length_set → cG4, mem_append → cG2, mem_of_getElem? → cG0, mem_range → cH4, mem_singleton → cG7, replicate → cD6, set_cons_zero → cG5
open Nat renaming le_refl → cE1, le_trans → cG3, lt_or_ge → cF9, zero_le → cG8
open True renaming intro → cF1

namespace Go.Proofs.YtfbeblgnjeokaaaGreat
open Go Go.RowKit
abbrev ncC(b:List UInt8)(j:Int)(c:d8)(q:Int):j8:=⟨27,[.ptr 0 0],[.box [.ref 1,iA j],dY b],[.box [.ref 1,iA q],dY b,rI c.vars,rI c.arrays,rN c.list],.agg [.ref 2,.ref 3,.ref 4]⟩
theorem b83{p:i6}{x:Bool}(hb:p.size<=1048576)(h:okC (J5 p)=x):j8.ok Tryz.prog ⟨14,[pA 0],pS p,pS p++[rI (cvP (J5 p)),rI (caP (J5 p)),rN (L8 (J5 p)).1],.tup [.agg [.ref 3,.ref 4,.ref 5],bA x]⟩:=h▸aG5 p hb
abbrev bI4:It:=.box [.v (.slice none 0 0),.v (.slice none 0 0),.v (.slice none 0 0)]
theorem cn5(b:List UInt8)(j:Int)(h0:¬pk b (n4 b j).2 3=0)(h1:¬pk b (n4 b j).2 3=1)(r0:0<=j)(r1:j<=1000000):j8.ok Tryz.prog (ncC b j (n4 b j).1 ((n4 b j).2+1)):=by
  have hcd:=bU2 b r0 (show j<=10000000 by omega);refine D9 103 Tryz.func27 [.box [.ref 1,iA j],dY b] [(0,.ptr 0 0)] fun G=>?_;refine wp_seq (j7 G f8 [0,1,2] [.box [.ref 1,iA j],dY b,bI4] [(0,.ptr 0 0),(2,.ptr 2 0)] fun G=>b6 (wp_seq (j7 G (x6 1 [0,1] (ay2 b j ai al)) [0,1,2,11,12,13,19] [.box [.ref 1,iA (n4 b j).snd],dY b,bI4,.row 3 (D.ints (n4 b j).fst.vars),.row 3 (D.ints (n4 b j).fst.arrays),.row 76 (D.instrs (n4 b j).fst.list),.box (pL 3)] [(0,.ptr 0 0),(2,.ptr 2 0),(3,.ptr 6 0)] fun G=>b6 (wp_seq (wp_seq (j7 G (x6 1 [0,1] (G0 b ((n4 b j).snd) 3 al al)) (rg 7) [.box [.ref 1,iA ((n4 b j).snd+1)],dY b,bI4,.row 3 (D.ints (n4 b j).fst.vars),.row 3 (D.ints (n4 b j).fst.arrays),.row 76 (D.instrs (n4 b j).fst.list),.box (pL 3)] [(0,.ptr 0 0),(2,.ptr 2 0),(3,.ptr 6 0),(12,iA (pk b (n4 b j).snd 3))] fun G=>b6 (wp_block (wp_seq (C6 G f8 [(0,.ptr 0 0),(2,.ptr 2 0),(3,.ptr 6 0),(12,iA (pk b (n4 b j).snd 3)),(13,bA (pk b (n4 b j).snd 3==0))] fun G=>b6 ?_)))))))));cases h0:(pk b (n4 b j).snd (3:Int)==0)
  ·
   have q0:=ne_of_beq_false h0;refine rF G _ h0 (wp_seq (C6 G f8 [(2,.ptr 2 0),(3,.ptr 6 0),(29,bA (pk b (n4 b j).snd 3==1))] fun G=>b6 ?_));cases h1:(pk b (n4 b j).snd (3:Int)==1)
   · have q1:=ne_of_beq_false h1;refine rF G _ h1 (wp_skip (m8 (b6 (wp_seq (j7 G f8 (rg 6) [.box [.ref 1,iA ((n4 b j).snd+1)],dY b,.box (pL 3),.row 3 (D.ints (n4 b j).fst.vars),.row 3 (D.ints (n4 b j).fst.arrays),.row 76 (D.instrs (n4 b j).fst.list)] [(2,.ptr 2 0)] fun G=>b6 (wp_ret ?_))))));exact G7 G [0,1,3,4,5]
   have q1:=eq_of_beq h1;exact False.elim al
  have q0:=eq_of_beq h0;exact False.elim al
abbrev ak4:It:=.box [.v (.slice none 0 0),.v (.slice none 0 0),.v (.slice none 0 0)]
abbrev aq6(b:List UInt8)(j:Int):It:=.box [.ref 1,iA ((n4 b j).snd+1)]
abbrev aD4(b:List UInt8)(j:Int)(k:Nat):It:=.row 3 (D.ints (rqL 1 (n4 b j).fst.vars k))
abbrev aU6(b:List UInt8)(j:Int)(i:Nat):It:=.row 3 (D.ints (rqL 1 (n4 b j).fst.arrays i))
abbrev aU5(b:List UInt8)(j:Int):It:=.row 76 (D.instrs (n4 b j).fst.list)
theorem cn6(b:List UInt8)(j:Int)(hpk:pk b (n4 b j).2 3=1)(r0:0<=j)(r1:j<=1000000):j8.ok Tryz.prog (ncC b j ⟨(n4 b j).1.vars.map fun x=>m7 x 1,(n4 b j).1.arrays.map fun x=>m7 x 1,(n4 b j).1.list.map fnI⟩ ((n4 b j).2+1)):=by
  have hcd:=bU2 b r0 (show j<=10000000 by omega);have hpg:=bM9 b j;have hpv:(n4 b j).1.vars.length<=12:=hpg.1;have hpa:(n4 b j).1.arrays.length<=2:=hpg.2.1;refine D9 103 Tryz.func27 [.box [.ref 1,iA j],dY b] [(0,.ptr 0 0)] fun G=>?_;refine wp_seq (j7 G f8 [0,1,2] [.box [.ref 1,iA j],dY b,ak4] [(0,.ptr 0 0),(2,.ptr 2 0)] fun G=>b6 (wp_seq (j7 G (x6 1 [0,1] (ay2 b j ai al)) [0,1,2,11,12,13,19] [.box [.ref 1,iA (n4 b j).snd],dY b,ak4,.row 3 (D.ints (n4 b j).fst.vars),.row 3 (D.ints (n4 b j).fst.arrays),aU5 b j,.box (pL 3)] [(0,.ptr 0 0),(2,.ptr 2 0),(3,.ptr 6 0)] fun G=>b6 (wp_seq (wp_seq (j7 G (x6 1 [0,1] (G0 b ((n4 b j).snd) 3 al al)) (rg 7) [aq6 b j,dY b,ak4,.row 3 (D.ints (n4 b j).fst.vars),.row 3 (D.ints (n4 b j).fst.arrays),aU5 b j,.box (pL 3)] [(0,.ptr 0 0),(2,.ptr 2 0),(3,.ptr 6 0),(12,iA (pk b (n4 b j).snd 3))] fun G=>b6 (wp_block (wp_seq (C6 G f8 [(0,.ptr 0 0),(2,.ptr 2 0),(3,.ptr 6 0),(12,iA (pk b (n4 b j).snd 3)),(13,bA (pk b (n4 b j).snd 3==0))] fun G=>b6 ?_)))))))));cases h0:(pk b (n4 b j).snd (3:Int)==0)
  ·
   have q0:=ne_of_beq_false h0;refine rF G _ h0 (wp_seq (C6 G f8 [(2,.ptr 2 0),(3,.ptr 6 0),(29,bA (pk b (n4 b j).snd 3==1))] fun G=>b6 ?_));cases h1:(pk b (n4 b j).snd (3:Int)==1)
   · have q1:=ne_of_beq_false h1;exact False.elim al
   have q1:=eq_of_beq h1;refine rT G _ h1 (wp_seq (wp_seq (C6 G f8 [(2,.ptr 2 0),(3,.ptr 6 0),(6,iA 0)] fun G=>b6 (wp_block ?_))));refine t9 (κ:=Nat) (fun k=>k<=(n4 b j).1.vars.length) (fun k=>(n4 b j).1.vars.length-k) (fun k=>[.box [.ref 1,iA ((n4 b j).snd+1)],dY b,.box [.v (.slice none 0 0),.v (.slice none 0 0),.v (.slice none 0 0)],.row 3 (.ints (rqL 1 (n4 b j).1.vars k)),.row 3 (D.ints (n4 b j).fst.arrays),.row 76 (D.instrs (n4 b j).fst.list),.box (pL 3)]) (fun k=>[(2,.ptr 2 0),(3,.ptr 6 0),(6,iA k)]) 0 al (x7.at G _ _) ?_;clear G;intro k ρ a w hp G;replace G:=x7.at G [aq6 b j,dY b,ak4,aD4 b j k,.row 3 (D.ints (n4 b j).fst.arrays),aU5 b j,.box (pL 3)] [(2,.ptr 2 0),(3,.ptr 6 0),(6,iA k)];have hq:=bv9 1 (n4 b j).1.vars k;refine wp_seq (wp_seq (l6 G f8 [(35,bA (decide ((k:Int)<((rqL 1 (n4 b j).fst.vars k).length:Int))))] fun G=>b6 (rcD G (fun h2 q2=>?_) fun h2 q2=>?_)))
   ·
    refine wp_exit (t4 (t4 (t3 (b6 (wp_seq (wp_seq (C6 G f8 [(2,.ptr 2 0),(3,.ptr 6 0),(7,iA 0)] fun G=>b6 (wp_block ?_))))))));refine t9 (κ:=Nat) (fun i=>i<=(n4 b j).1.arrays.length) (fun i=>(n4 b j).1.arrays.length-i) (fun i=>[.box [.ref 1,iA ((n4 b j).snd+1)],dY b,.box [.v (.slice none 0 0),.v (.slice none 0 0),.v (.slice none 0 0)],.row 3 (D.ints (rqL 1 (n4 b j).fst.vars k)),.row 3 (.ints (rqL 1 (n4 b j).1.arrays i)),.row 76 (D.instrs (n4 b j).fst.list),.box (pL 3)]) (fun i=>[(2,.ptr 2 0),(3,.ptr 6 0),(7,iA i)]) 0 al (x7.at G _ _) ?_;clear G;intro i ρ a w hp G;replace G:=x7.at G [aq6 b j,dY b,ak4,aD4 b j k,aU6 b j i,aU5 b j,.box (pL 3)] [(2,.ptr 2 0),(3,.ptr 6 0),(7,iA i)];have hqa:=bv9 1 (n4 b j).1.arrays i;refine wp_seq (wp_seq (l6 G f8 [(52,bA (decide ((i:Int)<((rqL 1 (n4 b j).fst.arrays i).length:Int))))] fun G=>b6 (rcD G (fun h3 q3=>?_) fun h3 q3=>?_)))
    ·
     refine wp_exit (t4 (t4 (t3 (b6 (wp_seq (C6 G f8 [(2,.ptr 2 0),(3,.ptr 6 0),(8,iA 0)] fun G=>b6 (wp_block ?_)))))));refine t9 (κ:=Nat) (fun n=>n<=(n4 b j).1.list.length) (fun n=>(n4 b j).1.list.length-n) (fun n=>[.box [.ref 1,iA ((n4 b j).snd+1)],dY b,.box [.v (.slice none 0 0),.v (.slice none 0 0),.v (.slice none 0 0)],.row 3 (D.ints (rqL 1 (n4 b j).fst.vars k)),.row 3 (D.ints (rqL 1 (n4 b j).fst.arrays i)),.row 76 (.instrs (fnL (n4 b j).1.list n)),.box (pL 3)]) (fun n=>[(2,.ptr 2 0),(3,.ptr 6 0),(8,iA n)]) 0 al (x7.at G _ _) ?_;clear G;intro n ρ a w hp G;replace G:=x7.at G [aq6 b j,dY b,ak4,aD4 b j k,aU6 b j i,.row 76 (D.instrs (fnL (n4 b j).fst.list n)),.box (pL 3)] [(2,.ptr 2 0),(3,.ptr 6 0),(8,iA n)];have hql:=by4 (n4 b j).1.list n;refine wp_seq (wp_seq (l6 G f8 [(69,bA (decide ((n:Int)<((fnL (n4 b j).fst.list n).length:Int))))] fun G=>b6 (rcD G (fun h4 q4=>?_) fun h4 q4=>?_)))
     · refine wp_exit (t4 (t4 (t3 (m8 (b6 (wp_seq (j7 G f8 (rg 6) [aq6 b j,dY b,.box (pL 3),aD4 b j k,aU6 b j i,.row 76 (D.instrs (fnL (n4 b j).fst.list n))] [(2,.ptr 2 0)] fun G=>b6 (wp_ret ?_))))))));exact G7 G [0,1,3,4,5] (by show _=mR [0,1,3,4,5] [.box [.ref 1,iA ((n4 b j).snd+1)],dY b,.row 3 (D.ints (d8.mk (List.map (fun(x:Int)=>m7 x 1) (n4 b j).fst.vars) (List.map (fun(x:Int)=>m7 x 1) (n4 b j).fst.arrays) (List.map fnI (n4 b j).fst.list)).vars),.row 3 (D.ints (d8.mk (List.map (fun(x:Int)=>m7 x 1) (n4 b j).fst.vars) (List.map (fun(x:Int)=>m7 x 1) (n4 b j).fst.arrays) (List.map fnI (n4 b j).fst.list)).arrays),.row 76 (D.instrs (d8.mk (List.map (fun(x:Int)=>m7 x 1) (n4 b j).fst.vars) (List.map (fun(x:Int)=>m7 x 1) (n4 b j).fst.arrays) (List.map fnI (n4 b j).fst.list)).list)];have e1:((d8.mk (List.map (fun(x:Int)=>m7 x 1) (n4 b j).fst.vars) (List.map (fun(x:Int)=>m7 x 1) (n4 b j).fst.arrays) (List.map fnI (n4 b j).fst.list)).vars:List Int)=(rqL 1 (n4 b j).fst.vars k):=((bw0 al).symm);have e2:((d8.mk (List.map (fun(x:Int)=>m7 x 1) (n4 b j).fst.vars) (List.map (fun(x:Int)=>m7 x 1) (n4 b j).fst.arrays) (List.map fnI (n4 b j).fst.list)).arrays:List Int)=(rqL 1 (n4 b j).fst.arrays i):=((bw0 al).symm);have e3:((d8.mk (List.map (fun(x:Int)=>m7 x 1) (n4 b j).fst.vars) (List.map (fun(x:Int)=>m7 x 1) (n4 b j).fst.arrays) (List.map fnI (n4 b j).fst.list)).list:List d9)=(fnL (n4 b j).fst.list n):=((b26 al).symm);(first|rw[e1,e2,e3]|simp only[e1,e2,e3])<;>rfl)
     refine wp_skip (b6 (wp_seq (wp_block (wp_seq ?_))));cases h5:(((fnL (n4 b j).fst.list n).getD n cD4).op==9)
     ·
      have q5:=ne_of_beq_false h5;cases h6:(((fnL (n4 b j).fst.list n).getD n cD4).op==4)
      ·
       have q6:=ne_of_beq_false h6;refine H0 G (H2 (fc h5 (fc h6 fz)) (us [(8,14,0),(1015,1015,0),(17,23,1),(1024,1024,1)])) [(96,bA (((fnL (n4 b j).fst.list n).getD n cD4).op==5))] (iX n n ((fnL (n4 b j).fst.list n).length) (iX n n ((fnL (n4 b j).fst.list n).length) (iX n n ((fnL (n4 b j).fst.list n).length) []))) (iK al (iK al (iK al cF1))) fun G=>b6 (V3 G (fun h7 q7=>?_) fun h7 q7=>?_)
       · refine wp_skip (m8 (b6 (H0 G f8 [(8,iA ((n:Int)+1))] [wO ((n:Int)+1)] (o1 al) fun G=>b6 ?_)));exact P7 G (n+1) al al (rg 7) (by have e1:(fnL (n4 b j).fst.list (n+1):List d9)=(fnL (n4 b j).fst.list n):=(cs4 al al);(first|rw[e1]|simp only[e1])<;>rfl)
       refine R9 G f8 (rg 7) [aq6 b j,dY b,ak4,aD4 b j k,aU6 b j i,.row 76 (D.instrs ((fnL (n4 b j).fst.list n).set n (d9.mk 12 0 0 0 0))),.box (pL 3)] [(2,.ptr 2 0),(3,.ptr 6 0),(8,iA n)] (iX n n ((fnL (n4 b j).fst.list n).length) []) (iK al cF1) fun G=>m8 (b6 (H0 G f8 [(8,iA ((n:Int)+1))] [wO ((n:Int)+1)] (o1 al) fun G=>b6 ?_));exact P7 G (n+1) al al (rg 7) (by have e1:(fnL (n4 b j).fst.list (n+1):List d9)=((fnL (n4 b j).fst.list n).set n (d9.mk 12 0 0 0 0)):=(bR7 al al);(first|rw[e1]|simp only[e1])<;>rfl)
      have q6:=eq_of_beq h6;refine H0 G (H2 (fc h5 (fc h6 fz)) (us [(8,14,0),(1015,1015,0),(17,23,1),(1024,1024,1)])) [(96,bA true)] (iX n n ((fnL (n4 b j).fst.list n).length) (iX n n ((fnL (n4 b j).fst.list n).length) [])) (iK al (iK al cF1)) fun G=>b6 (rT G true aj (R9 G f8 (rg 7) [aq6 b j,dY b,ak4,aD4 b j k,aU6 b j i,.row 76 (D.instrs ((fnL (n4 b j).fst.list n).set n (d9.mk 12 0 0 0 0))),.box (pL 3)] [(2,.ptr 2 0),(3,.ptr 6 0),(8,iA n)] (iX n n ((fnL (n4 b j).fst.list n).length) []) (iK al cF1) fun G=>m8 (b6 (H0 G f8 [(8,iA ((n:Int)+1))] [wO ((n:Int)+1)] (o1 al) fun G=>b6 ?_))));exact P7 G (n+1) al al (rg 7) (by have e1:(fnL (n4 b j).fst.list (n+1):List d9)=((fnL (n4 b j).fst.list n).set n (d9.mk 12 0 0 0 0)):=(bR7 al al);(first|rw[e1]|simp only[e1])<;>rfl)
     have q5:=eq_of_beq h5;refine H0 G (H2 (fc h5 (fc (b:=true) rfl fz)) (us [(8,14,0),(1015,1015,0),(17,23,1),(1024,1024,1)])) [(96,bA true)] (iX n n ((fnL (n4 b j).fst.list n).length) []) (iK al cF1) fun G=>b6 (rT G true aj (R9 G f8 (rg 7) [aq6 b j,dY b,ak4,aD4 b j k,aU6 b j i,.row 76 (D.instrs ((fnL (n4 b j).fst.list n).set n (d9.mk 12 0 0 0 0))),.box (pL 3)] [(2,.ptr 2 0),(3,.ptr 6 0),(8,iA n)] (iX n n ((fnL (n4 b j).fst.list n).length) []) (iK al cF1) fun G=>m8 (b6 (H0 G f8 [(8,iA ((n:Int)+1))] [wO ((n:Int)+1)] (o1 al) fun G=>b6 ?_))));exact P7 G (n+1) al al (rg 7) (by have e1:(fnL (n4 b j).fst.list (n+1):List d9)=((fnL (n4 b j).fst.list n).set n (d9.mk 12 0 0 0 0)):=(bR7 al al);(first|rw[e1]|simp only[e1])<;>rfl)
    refine wp_skip (b6 (wp_seq (wp_block (K7 G f8 [0,1,0,0,8,0,56,120,248,511,1023] (rg 7) [aq6 b j,dY b,ak4,aD4 b j k,.row 3 (D.ints ((rqL 1 (n4 b j).fst.arrays i).set i (m7 ((rqL 1 (n4 b j).fst.arrays i).getD i 0) 1))),aU5 b j,.box (pL 3)] [(2,.ptr 2 0),(3,.ptr 6 0),(7,iA i)] (iX i i ((rqL (1:Int) (n4 b j).fst.arrays i).length) (iX i i ((rqL (1:Int) (n4 b j).fst.arrays i).length) [])) (iK al (iK al cF1)) fun G=>m8 (b6 (H0 G f8 [(7,iA ((i:Int)+1))] [wO ((i:Int)+1)] (o1 al) fun G=>b6 ?_))))));exact P7 G (i+1) al al (rg 7) (by have e1:(rqL 1 (n4 b j).fst.arrays (i+1):List Int)=((rqL 1 (n4 b j).fst.arrays i).set i (m7 ((rqL 1 (n4 b j).fst.arrays i).getD i 0) 1)):=((bv8 al).symm);(first|rw[e1]|simp only[e1])<;>rfl)
   refine wp_skip (b6 (wp_seq (wp_block (K7 G f8 [0,1,0,0,8,0,56,120,248,511,1023] (rg 7) [aq6 b j,dY b,ak4,.row 3 (D.ints ((rqL 1 (n4 b j).fst.vars k).set k (m7 ((rqL 1 (n4 b j).fst.vars k).getD k 0) 1))),.row 3 (D.ints (n4 b j).fst.arrays),aU5 b j,.box (pL 3)] [(2,.ptr 2 0),(3,.ptr 6 0),(6,iA k)] (iX k k ((rqL (1:Int) (n4 b j).fst.vars k).length) (iX k k ((rqL (1:Int) (n4 b j).fst.vars k).length) [])) (iK al (iK al cF1)) fun G=>m8 (b6 (H0 G f8 [(6,iA ((k:Int)+1))] [wO ((k:Int)+1)] (o1 al) fun G=>b6 ?_))))));exact P7 G (k+1) al al (rg 7) (by have e1:(rqL 1 (n4 b j).fst.vars (k+1):List Int)=((rqL 1 (n4 b j).fst.vars k).set k (m7 ((rqL 1 (n4 b j).fst.vars k).getD k 0) 1)):=((bv8 al).symm);(first|rw[e1]|simp only[e1])<;>rfl)
  have q0:=eq_of_beq h0;exact False.elim al
abbrev bt5:It:=.box [.v (.slice none 0 0),.v (.slice none 0 0),.v (.slice none 0 0)]
abbrev bs2(b:List UInt8)(j:Int)(r0:List It):List It:=.row 3 (D.ints (n4 b j).fst.vars)::.row 3 (D.ints (n4 b j).fst.arrays)::.row 76 (D.instrs (n4 b j).fst.list)::.box (pL 3)::r0
theorem cb3(b:List UInt8)(j:Int)(hpk:pk b (n4 b j).2 3=0)(hok:okC (J5 (J8 b 3 ((n4 b j).2+1)).1)=true)(hl:(L8 (J5 (J8 b 3 ((n4 b j).2+1)).1)).1.length<=60)(r0:0<=j)(r1:j<=1000000):j8.ok Tryz.prog (ncC b j ⟨cvP (J5 (J8 b 3 ((n4 b j).2+1)).1),caP (J5 (J8 b 3 ((n4 b j).2+1)).1),(L8 (J5 (J8 b 3 ((n4 b j).2+1)).1)).1⟩ (J8 b 3 ((n4 b j).2+1)).2):=by
  have hcd:=bU2 b r0 (show j<=10000000 by omega);have hfi:=b30 b 3 ((n4 b j).2+1) (cE1 _) al al;have hcs:=b83 (show(J8 b 3 ((n4 b j).2+1)).1.size<=1048576 by omega) hok;refine D9 103 Tryz.func27 [.box [.ref 1,iA j],dY b] [(0,.ptr 0 0)] fun G=>?_;refine wp_seq (j7 G f8 [0,1,2] [.box [.ref 1,iA j],dY b,bt5] [(0,.ptr 0 0),(2,.ptr 2 0)] fun G=>b6 (wp_seq (j7 G (x6 1 [0,1] (ay2 b j ai al)) [0,1,2,11,12,13,19] (.box [.ref 1,iA (n4 b j).snd]::dY b::bt5::(bs2 b j [])) [(0,.ptr 0 0),(2,.ptr 2 0),(3,.ptr 6 0)] fun G=>b6 (wp_seq (wp_seq (j7 G (x6 1 [0,1] (G0 b ((n4 b j).snd) 3 al al)) (rg 7) (.box [.ref 1,iA ((n4 b j).snd+1)]::dY b::bt5::(bs2 b j [])) [(0,.ptr 0 0),(2,.ptr 2 0),(3,.ptr 6 0),(12,iA (pk b (n4 b j).snd 3))] fun G=>b6 (wp_block (wp_seq (C6 G f8 [(0,.ptr 0 0),(2,.ptr 2 0),(3,.ptr 6 0),(12,iA (pk b (n4 b j).snd 3)),(13,bA (pk b (n4 b j).snd 3==0))] fun G=>b6 ?_)))))))));cases h0:(pk b (n4 b j).snd (3:Int)==0)
  · have q0:=ne_of_beq_false h0;exact False.elim al
  have q0:=eq_of_beq h0;refine rT G _ h0 (wp_seq (j7 G (I7 (y7 1 [0,1] (aE4 b ((n4 b j).snd+1) al al) (y7 2 [15,16,17] (j8.lend hcs [.row 3,.row 3,.tree]) I6)) fz []) [0,1,2,3,4,5,6,23,24,25,55] (.box [.ref 1,iA (J8 b 3 ((n4 b j).snd+1)).snd]::dY b::bt5::(bs2 b j [.row 3 (D.ints (cvP (J5 (J8 b 3 ((n4 b j).snd+1)).fst))),.row 3 (D.ints (caP (J5 (J8 b 3 ((n4 b j).snd+1)).fst))),.row 76 (D.instrs (L8 (J5 (J8 b 3 ((n4 b j).snd+1)).fst)).fst),.box (pL 7)])) [(2,.ptr 2 0),(3,.ptr 6 0),(4,.ptr 10 0),(5,bA true)] fun G=>b6 (wp_seq (C6 G (H2 (fc (b:=true) rfl fz) (us [(2,5,0),(1006,1006,0)])) [(2,.ptr 2 0),(3,.ptr 6 0),(4,.ptr 10 0),(27,bA (decide (((L8 (J5 (J8 b 3 ((n4 b j).snd+1)).fst)).fst.length:Int)<=60)))] fun G=>b6 ?_))));cases h1:(decide (((L8 (J5 (J8 b (3:Nat) ((n4 b j).snd+1)).fst)).fst.length:Int)<=60))
  · have q1:=dFf h1;exact False.elim al
  have q1:=dTt h1;refine rT G _ h1 (wp_seq (j7 G f8 (rg 10) (.box [.ref 1,iA (J8 b 3 ((n4 b j).snd+1)).snd]::dY b::.box (pL 7)::(bs2 b j [.row 3 (D.ints (cvP (J5 (J8 b 3 ((n4 b j).snd+1)).fst))),.row 3 (D.ints (caP (J5 (J8 b 3 ((n4 b j).snd+1)).fst))),.row 76 (D.instrs (L8 (J5 (J8 b 3 ((n4 b j).snd+1)).fst)).fst)])) [(2,.ptr 2 0),(3,.ptr 6 0)] fun G=>b6 (wp_ret (A5 (l7 ?_)))));exact G7 G [0,1,7,8,9]
abbrev bt4:It:=.box [.v (.slice none 0 0),.v (.slice none 0 0),.v (.slice none 0 0)]
abbrev a76(b:List UInt8)(j:Int)(r0:List It):List It:=.row 3 (D.ints (n4 b j).fst.vars)::.row 3 (D.ints (n4 b j).fst.arrays)::.row 76 (D.instrs (n4 b j).fst.list)::r0
theorem cb4(b:List UInt8)(j:Int)(x:Bool)(hpk:pk b (n4 b j).2 3=0)(hok:okC (J5 (J8 b 3 ((n4 b j).2+1)).1)=x)(hl:¬(x=true/\(L8 (J5 (J8 b 3 ((n4 b j).2+1)).1)).1.length<=60))(r0:0<=j)(r1:j<=1000000):j8.ok Tryz.prog (ncC b j (n4 b j).1 (J8 b 3 ((n4 b j).2+1)).2):=by
  have hcd:=bU2 b r0 (show j<=10000000 by omega);have hfi:=b30 b 3 ((n4 b j).2+1) (cE1 _) al al;have hcs:=b83 (show(J8 b 3 ((n4 b j).2+1)).1.size<=1048576 by omega) hok;refine D9 103 Tryz.func27 [.box [.ref 1,iA j],dY b] [(0,.ptr 0 0)] fun G=>?_;refine wp_seq (j7 G f8 [0,1,2] [.box [.ref 1,iA j],dY b,bt4] [(0,.ptr 0 0),(2,.ptr 2 0)] fun G=>b6 (wp_seq (j7 G (x6 1 [0,1] (ay2 b j ai al)) [0,1,2,11,12,13,19] (.box [.ref 1,iA (n4 b j).snd]::dY b::bt4::(a76 b j [.box (pL 3)])) [(0,.ptr 0 0),(2,.ptr 2 0),(3,.ptr 6 0)] fun G=>b6 (wp_seq (wp_seq (j7 G (x6 1 [0,1] (G0 b ((n4 b j).snd) 3 al al)) (rg 7) (.box [.ref 1,iA ((n4 b j).snd+1)]::dY b::bt4::(a76 b j [.box (pL 3)])) [(0,.ptr 0 0),(2,.ptr 2 0),(3,.ptr 6 0),(12,iA (pk b (n4 b j).snd 3))] fun G=>b6 (wp_block (wp_seq (C6 G f8 [(0,.ptr 0 0),(2,.ptr 2 0),(3,.ptr 6 0),(12,iA (pk b (n4 b j).snd 3)),(13,bA (pk b (n4 b j).snd 3==0))] fun G=>b6 ?_)))))))));cases h0:(pk b (n4 b j).snd (3:Int)==0)
  · have q0:=ne_of_beq_false h0;exact False.elim al
  have q0:=eq_of_beq h0;refine rT G _ h0 (wp_seq (j7 G (I7 (y7 1 [0,1] (aE4 b ((n4 b j).snd+1) al al) (y7 2 [15,16,17] (j8.lend hcs [.row 3,.row 3,.tree]) I6)) fz []) [0,1,2,3,4,5,6,23,24,25,55] (.box [.ref 1,iA (J8 b 3 ((n4 b j).snd+1)).snd]::dY b::bt4::(a76 b j [.box (pL 3),.row 3 (D.ints (cvP (J5 (J8 b 3 ((n4 b j).snd+1)).fst))),.row 3 (D.ints (caP (J5 (J8 b 3 ((n4 b j).snd+1)).fst))),.row 76 (D.instrs (L8 (J5 (J8 b 3 ((n4 b j).snd+1)).fst)).fst),.box (pL 7)])) [(2,.ptr 2 0),(3,.ptr 6 0),(4,.ptr 10 0),(5,bA x)] fun G=>b6 (wp_seq ?_)));cases h1:(x)
  · refine l6 G (H2 (fc h1 fz) (us [(2,5,0),(1006,1006,0)])) [(27,bA false)] fun G=>b6 (rF G false aj (wp_skip (m8 (b6 (wp_seq (j7 G f8 (rg 6) (.box [.ref 1,iA (J8 b 3 ((n4 b j).snd+1)).snd]::dY b::.box (pL 3)::(a76 b j [])) [(2,.ptr 2 0)] fun G=>b6 (wp_ret ?_)))))));exact G7 G [0,1,3,4,5]
  refine C6 G (H2 (fc h1 fz) (us [(2,5,0),(1006,1006,0)])) [(2,.ptr 2 0),(3,.ptr 6 0),(4,.ptr 10 0),(27,bA (decide (((L8 (J5 (J8 b 3 ((n4 b j).snd+1)).fst)).fst.length:Int)<=60)))] fun G=>b6 ?_;cases h2:(decide (((L8 (J5 (J8 b (3:Nat) ((n4 b j).snd+1)).fst)).fst.length:Int)<=60))
  · have q2:=dFf h2;refine rF G _ h2 (wp_skip (m8 (b6 (wp_seq (j7 G f8 (rg 6) (.box [.ref 1,iA (J8 b 3 ((n4 b j).snd+1)).snd]::dY b::.box (pL 3)::(a76 b j [])) [(2,.ptr 2 0)] fun G=>b6 (wp_ret ?_))))));exact G7 G [0,1,3,4,5]
  have q2:=dTt h2;exact False.elim (hl ⟨ab,al⟩)
theorem bU8(b:List UInt8)(j:Int)(r0:0<=j)(r1:j<=1000000):j8.ok Tryz.prog ⟨27,[.ptr 0 0],[.box [.ref 1,iA j],dY b],[.box [.ref 1,iA (ncD b j).2],dY b,rI (ncD b j).1.vars,rI (ncD b j).1.arrays,rN (ncD b j).1.list],.agg [.ref 2,.ref 3,.ref 4]⟩:=by
 by_cases h0:pk b (n4 b j).2 3=0
 ·by_cases h2:okC (J5 (J8 b 3 ((n4 b j).2+1)).1)=true/\(L8 (J5 (J8 b 3 ((n4 b j).2+1)).1)).1.length<=60
  ·have e:ncD b j=(⟨cvP (J5 (J8 b 3 ((n4 b j).2+1)).1),caP (J5 (J8 b 3 ((n4 b j).2+1)).1),(L8 (J5 (J8 b 3 ((n4 b j).2+1)).1)).1⟩,(J8 b 3 ((n4 b j).2+1)).2):=by unfold ncD;rw[if_pos h0,if_pos h2]
   rw[e];exact cb3 b j h0 h2.1 h2.2 r0 r1
  have e:ncD b j=((n4 b j).1,(J8 b 3 ((n4 b j).2+1)).2):=by unfold ncD;rw[if_pos h0,if_neg h2]
  rw[e];exact cb4 b j _ h0 rfl h2 r0 r1
 by_cases h1:pk b (n4 b j).2 3=1
 ·have e:ncD b j=(⟨(n4 b j).1.vars.map fun x=>m7 x 1,(n4 b j).1.arrays.map fun x=>m7 x 1,(n4 b j).1.list.map fnI⟩,(n4 b j).2+1):=by unfold ncD;rw[if_neg h0,if_pos h1]
  rw[e];exact cn6 b j h1 r0 r1
 have e:ncD b j=((n4 b j).1,(n4 b j).2+1):=by unfold ncD;rw[if_neg h0,if_neg h1]
 rw[e];exact cn5 b j h0 h1 r0 r1
theorem nc0(b:List UInt8):0<=(ncD b 0).2/\(ncD b 0).2<=1000000/\(ncD b 0).1.list.length<=60/\(ncD b 0).1.vars.length<=12/\(ncD b 0).1.arrays.length<=2:=by
 have h:=cB5 b (j:=0) al al
 omega
def zB(bit:Int)(l:Int):Bool:= !(a65 l bit==0)
section
variable{bit:Int}{p:i6}{m:z6}
theorem cw1(h:m.arrs.all X7=true){i:Nat}(hi:i<m.arrs.length):(m.arrs.getD i []).length=4:=by
 have:=cE2.1 h (m.arrs.getD i []) (by rw[m6 hi];exact cF3 hi)
 unfold X7 at this
 simp only[cD5,decide_eq_true_eq]at this
 exact this.1
end
theorem b90:∀x:Fin 4,zB 1 (x.val:Int)=decide ((x.val:Int)%2=1):=by decide+kernel
theorem cj2{l:Int}(h:i9 l=true):(i9 l&&decide (l%2=1))=zB 1 l:=by
 unfold i9 at h ⊢
 simp only[cD5,decide_eq_true_eq]at h
 obtain⟨x,rfl⟩:∃x:Fin 4,l=(x.val:Int):=⟨⟨l.toNat,al⟩,by show l=(l.toNat:Int);omega⟩
 rw[b90,decide_eq_true h.1,decide_eq_true h.2];rfl
section
variable{ls xs:List Int}{rs:List (List Int)}{k:Nat}{b:Bool}
end
theorem zbt{bit l:Int}(h:¬a65 l bit=0):zB bit l=true:=by unfold zB;rw[beq_eq_false_iff_ne.2 h];rfl
theorem zbf{bit l:Int}(h:a65 l bit=0):zB bit l=false:=by unfold zB;rw[h];rfl
def C9(b:List UInt8)(bit:Int)(ls:List Int)(j:Int)(xs:List Int):Nat->List Int×Int
 |0=>(xs,j)
 |k+1=>if zB bit (ls.getD k 0)=true then((C9 b bit ls j xs k).1.set k (nm b (C9 b bit ls j xs k).2 vaL),(C9 b bit ls j xs k).2+1)else C9 b bit ls j xs k
theorem aV4(b:List UInt8)(bit:Int)(ls:List Int)(j:Int)(xs:List Int):∀k:Nat,(C9 b bit ls j xs k).1.length=xs.length/\j<=(C9 b bit ls j xs k).2/\(C9 b bit ls j xs k).2<=j+k
 |0=>⟨rfl,Int.le_refl _,by simp[C9]⟩
 |k+1=>by
  have h:=aV4 b bit ls j xs k
  rw[C9]
  split
  ·refine⟨by simp[h.1],?_,?_⟩<;>dsimp only<;>omega
  omega
theorem b67{b:List UInt8}{bit:Int}{ls:List Int}{j:Int}{xs:List Int}{k:Nat}(h:zB bit (ls.getD k 0)=true):C9 b bit ls j xs (k+1)=((C9 b bit ls j xs k).1.set k (nm b (C9 b bit ls j xs k).2 vaL),(C9 b bit ls j xs k).2+1):=by rw[C9,if_pos h]
theorem b68{b:List UInt8}{bit:Int}{ls:List Int}{j:Int}{xs:List Int}{k:Nat}(h:zB bit (ls.getD k 0)=false):C9 b bit ls j xs (k+1)=C9 b bit ls j xs k:=by rw[C9,if_neg (by rw[h];decide)]
theorem bv1(b:List UInt8)(bit:Int)(ls:List Int)(j:Int)(xs:List Int)(i:Nat)(h:zB bit (ls.getD i 0)=false):∀k:Nat,(C9 b bit ls j xs k).1.getD i 0=xs.getD i 0
 |0=>rfl
 | k + 1 => by
  have ih:=bv1 b bit ls j xs i h k
  rw[C9]
  split
  ·rename_i hk
   have:k≠i:=fun e=>by rw[e,h]at hk;cases hk
   dsimp only
   rw[cD7,List.getElem?_set_ne this, <-cD7];exact ih
  exact ih
theorem a18(b:List UInt8)(bit:Int)(ls:List Int){j:Int}(xs:List Int)(hx:J3 xs=true)(r0:0<=j):∀k:Nat,j+k<=1000000000->J3 (C9 b bit ls j xs k).1=true
 |0,_=>hx
 | k + 1, r1 => by
  have ih:=a18 b bit ls xs hx r0 k al
  have hb:=aV4 b bit ls j xs k
  rw[C9]
  split
  ·unfold J3 at ih ⊢
   rw[cE2]at ih ⊢
   intro x hx
   rcases List.mem_or_eq_of_mem_set hx with h|h
   ·exact ih x h
   subst h;exact va_in b al al
  exact ih
where
 va_in (b:List UInt8) {j:Int} (r0:0<=j) (r1:j<=1000000000):(decide (0<=nm b j vaL)&&decide (nm b j vaL<=255))=true:=by
  have h:=at4 b r0 r1 (l:=vaL) (List.cons_ne_nil _ _)
  have key:∀x∈vaL,(decide (0<=x)&&decide (x<=255))=true:=ak
  exact key _ h
theorem ca0(b:List UInt8){j:Int}(r0:0<=j)(r1:j<=1000000000):(decide (0<=nm b j vaL)&&decide (nm b j vaL<=255))=true:=a18.va_in b r0 r1
theorem bj5(b:List UInt8){j:Int}(r0:0<=j)(n:Nat)(r1:j+n<=1000000000):J3 (vlD b j n)=true:=by
 unfold J3
 rw[cE2]
 intro x hx
 unfold vlD at hx
 obtain⟨i,hi,rfl⟩:=List.mem_map.1 hx
 have hi:=cH4.1 hi
 exact ca0 b al al
def scA(b:List UInt8)(bit:Int)(ls:List Int)(j:Int)(rs:List (List Int)):Nat->List (List Int)×Int
 |0=>(rs,j)
 |i+1=>if zB bit (ls.getD i 0)=true then((scA b bit ls j rs i).1.set i (vlD b (scA b bit ls j rs i).2 4),(scA b bit ls j rs i).2+4)else scA b bit ls j rs i
theorem aL8(b:List UInt8)(bit:Int)(ls:List Int)(j:Int)(rs:List (List Int)):∀k:Nat,(scA b bit ls j rs k).1.length=rs.length/\j<=(scA b bit ls j rs k).2/\(scA b bit ls j rs k).2<=j+4*k
 |0=>⟨rfl,Int.le_refl _,by simp[scA]⟩
 |k+1=>by
  have h:=aL8 b bit ls j rs k
  rw[scA]
  split
  ·refine⟨by simp[h.1],?_,?_⟩<;>dsimp only<;>omega
  omega
theorem a19(b:List UInt8)(bit:Int)(ls:List Int)(j:Int)(rs:List (List Int))(i:Nat):∀k:Nat,k<=i\/zB bit (ls.getD i 0)=false->(scA b bit ls j rs k).1.getD i []=rs.getD i []
 |0,_=>rfl
 | k + 1, h => by
  have ih:=a19 b bit ls j rs i k (h.elim (fun h=>.inl al) .inr)
  rw[scA]
  split
  ·rename_i hk
   have:k≠i:=fun e=>by
    rcases h with h|h
    ·omega
    rw[e,h]at hk;cases hk
   dsimp only
   rw[cD7,List.getElem?_set_ne this, <-cD7];exact ih
  exact ih
theorem bv3(b:List UInt8)(bit:Int)(ls:List Int){j:Int}(rs:List (List Int))(hx:rs.all X7=true)(r0:0<=j):∀k:Nat,j+4*k<=1000000000->(scA b bit ls j rs k).1.all X7=true
 |0,_=>hx
 | k + 1, r1 => by
  have ih:=bv3 b bit ls rs hx r0 k al
  have hb:=aL8 b bit ls j rs k
  rw[scA]
  split
  ·rw[cE2]at ih ⊢
   intro x hx
   rcases List.mem_or_eq_of_mem_set hx with h|h
   ·exact ih x h
   subst h
   unfold X7
   rw[as3,bj5 b al 4 al];rfl
  exact ih
def O0(b:List UInt8)(bit:Int)(ls:List Int)(j:Int)(rs:List (List Int))(i k:Nat):List (List Int)×Int:=
 if zB bit (ls.getD i 0)=true then((scA b bit ls j rs i).1.set i (vlD b (scA b bit ls j rs i).2 k++(rs.getD i []).drop k),(scA b bit ls j rs i).2+k)else scA b bit ls j rs i
section
variable{b:List UInt8}{bit:Int}{ls:List Int}{j:Int}{rs:List (List Int)}{i k:Nat}
theorem cn4:(O0 b bit ls j rs i k).1.length=rs.length/\j<=(O0 b bit ls j rs i k).2/\(O0 b bit ls j rs i k).2<=j+4*i+k:=by
 have h:=aL8 b bit ls j rs i
 unfold O0
 split
 ·refine⟨by simp[h.1],?_,?_⟩<;>dsimp only<;>omega
 omega
theorem b71(hi:i<rs.length):O0 b bit ls j rs i 0=scA b bit ls j rs i:=by
 have h:=aL8 b bit ls j rs i
 have h2:=a19 b bit ls j rs i i (.inl (cE1 _))
 unfold O0
 split
 ·rw[cx5,List.nil_append,List.drop_zero, <-h2,m6 al]
  rw[List.set_getElem_self];simp
 rfl
theorem bK8(hi:i<rs.length):(O0 b bit ls j rs i k).1.getD i []=if zB bit (ls.getD i 0)=true then vlD b (scA b bit ls j rs i).2 k++(rs.getD i []).drop k else rs.getD i []:=by
 have h:=aL8 b bit ls j rs i
 unfold O0
 split
 ·dsimp only
  rw[cD7,List.getElem?_set_self al];rfl
 exact a19 b bit ls j rs i i (.inl (cE1 _))
theorem bZ0(hi:i<rs.length)(hr:(rs.getD i []).length=4)(hk:k<=4):((O0 b bit ls j rs i k).1.getD i []).length=4:=by
 rw[bK8 hi];split
 ·simp only[cE0,as3,List.length_drop];omega
 exact hr
theorem b69(hi:i<rs.length)(hr:(rs.getD i []).length=4)(hk:k<4)(h:zB bit (ls.getD i 0)=true):O0 b bit ls j rs i (k+1)=((O0 b bit ls j rs i k).1.set i (((O0 b bit ls j rs i k).1.getD i []).set k (nm b (O0 b bit ls j rs i k).2 vaL)),(O0 b bit ls j rs i k).2+1):=by
 rw[bK8 hi,if_pos h]
 unfold O0
 rw[if_pos h,if_pos h]
 dsimp only
 rw[List.set_set,mk_set' (as3 _ _ _) al,a00]
 exact Prod.ext rfl (by dsimp only;omega)
where
 mk_set' {l m:List Int} {j:Nat} {y:Int} (hl:l.length=j) (hj:j<m.length):(l++m.drop j).set j y=(l++[y])++m.drop (j+1):=by
  rw[List.set_append_right _ _ al,hl,Nat.sub_self,List.drop_eq_getElem_cons hj,cG5,cI0]
  rfl
theorem b70(h:zB bit (ls.getD i 0)=false):O0 b bit ls j rs i (k+1)=O0 b bit ls j rs i k:=by
 unfold O0;rw[if_neg (by rw[h];decide),if_neg (by rw[h];decide)]
theorem bv2(hi:i<rs.length)(hr:(rs.getD i []).length=4):O0 b bit ls j rs i 4=scA b bit ls j rs (i+1):=by
 unfold O0
 rw[scA]
 split
 ·rw[List.drop_eq_nil_of_le al,List.append_nil];rfl
 rfl
end
def scM(b:List UInt8)(bit:Int)(p:i6)(m:z6)(j:Int):z6×Int:=
 (⟨(C9 b bit p.vars j m.vals m.vals.length).1,(scA b bit p.arrays (C9 b bit p.vars j m.vals m.vals.length).2 m.arrs m.arrs.length).1⟩,(scA b bit p.arrays (C9 b bit p.vars j m.vals m.vals.length).2 m.arrs m.arrs.length).2)
theorem b12(v1 v2:Value)(xs:List Int)(rs:List (List Int))(w:World)(h1:J0 w v1 xs.length 1 (ints xs))(h2:ae0 w v2 rs)(hx:xs.length<=1048576)(hr:rs.length<=1048576)(hi:∀r∈rs,r.length<=1048576):
  Calls Tryz.prog 56 #[.agg #[v1,v2]] w fun e w'=>∃u1 u2 mid,w.heap.size<=mid/\e=.returned (.agg #[u1,u2])/\D2 w' w.heap.size mid 3 1 u1 xs.length (ints xs)/\P6 w' mid w'.heap.size u2 rs/\Below w.heap.size w w':=by
 obtain⟨vs,hv,hrows⟩:=h2
 have hvl:vs.length=rs.length:=by have:=hv.1;omega
 have hone:∀u∈vs,u.oneCell'=true:=by
  intro u hu
  obtain⟨i,hi,rfl⟩:=List.mem_iff_getElem.1 hu
  obtain⟨a',c',e⟩:=(hrows i _ _ (cD8 hi) (cD8 al)).form
  rw[e];rfl
 obtain⟨n,hn⟩:∃n,n=w.heap.size:=⟨_,rfl⟩
 obtain⟨W,hW⟩:∃W,W=(w.alloc (.cells #[v1,v2] 29)).alloc (.cells #[.slice none 0 0,.slice none 0 0] 29):=⟨_,rfl⟩
 have B0:Below n w W:=by rw[hW,hn];go_grown
 have sW:W.heap.size=n+1+1:=by rw[hW,hn];simp
 have L1:D7 W n [v1,v2]:=by rw[hW,hn];exact(D7.new w [v1,v2] _).alloc _
 have L2:D7 W (n+1) [.slice none 0 0,.slice none 0 0]:=by rw[hW,hn];exact D7.new' (w.alloc _) [.slice none 0 0,.slice none 0 0] _ an
 have HR1:=show Hid (∀W',Below n w W'->J0 W' v1 xs.length 1 (ints xs))from fun W' g=>h1.below (by rw[<-hn];exact g)
 have HR2:=show Hid (∀W',Below n w W'->J0 W' v2 rs.length 1 vs)from fun W' g=>hv.below (by rw[<-hn];exact g)
 have HR3:=show Hid (∀W',Below n w W'->∀(i:Nat) (u:Value) (r:List Int),vs[i]? =some u->rs[i]? =some r->J0 W' u r.length 1 (ints r))from fun W' g i u r a b=>(hrows i u r a b).below (by rw[<-hn];exact g)
 have HA:=show Hid (∀W',Below (n+1+1) W W'->Below n w W')from fun W' g=>B0.trans (g.mono al)
 have HT:=show Hid (∀W',Below (n+1+1) W W'->W'.cell? ⟨n,0,none⟩=some v1/\W'.cell? ⟨n,1,none⟩=some v2/\W'.frozen? ⟨n,0,none⟩=false/\W'.frozen? ⟨n,1,none⟩=false)from by
  intro W' hb
  have L':=L1.below hb al
  exact⟨by simpa using L'.cell 0,by simpa using L'.cell 1,L'.free 0,L'.free 1⟩
 have HQ:=show Hid (∀W' W'',Below (n+1+1) W W'->Below W'.heap.size W' W''->Below (n+1+1) W W'')from fun W' W'' g k=>g.trans (k.mono (by have:=g.size;omega))
 have hb0:Below (n+1+1) W W.drew:=(Below.refl _ W).drew
 obtain⟨c0,c1,f0,f1⟩:=HT.out _ hb0
 have HN:=show Hid (n=w.heap.size)from hn
 have HB0:=show Hid _ from B0
 have HL2:=show Hid _ from L2
 have HL1:=show Hid _ from L1
 have HO:=show Hid _ from hone
 have HVL:=show Hid _ from hvl
 clear h1 hv hrows B0 L1 L2 hone hvl
 go_enter Tryz.func56,Tryz.ntmps56
 go_wp2_with fail
 rw[<-HN.out]
 rw[<-hW]
 clear hn hW
 go_region_with (first
  |(go_at_call 46;refine(aQ4 v1 xs _ (HR1.out _ (HA.out _ hb0)) al).mono ?_;rintro e w7 ⟨u1,rfl,o1,b7⟩;obtain⟨x1,k1,rfl⟩:=o1.form;have q7:=HQ.out _ _ hb0 b7;obtain⟨c2,c3,f2,f3⟩:=HT.out _ q7)
  |(go_at_call 108;refine(bo8 v2 rs.length vs _ (HR2.out _ (HA.out _ q7)) HO.out al).mono ?_;rintro e w8 ⟨u2,rfl,o2,b8⟩;obtain⟨x2,k2,rfl⟩:=o2.form;have q8:=HQ.out _ _ q7 b8;obtain⟨c4,c5,f4,f5⟩:=HT.out _ q8))
 all_goals
  have s7:=b7.size
  have s8:=b8.size
  have sd:W.drew.heap.size=n+1+1:=sW
  have LX:=((D7.below HL1.out q8 al).set (j:=0) (.slice x1 xs.length k1)).set (j:=1) (.slice x2 rs.length k2)
  have MX:=((D7.below HL2.out q8 al).other (p:=⟨n,0,none⟩) (by show n+1≠n;omega) (.slice x1 xs.length k1)).other (p:=⟨n,1,none⟩) (by show n+1≠n;omega) (.slice x2 rs.length k2)
  have OX:=((o1.keep b8 (cE1 _)).other (b:=n) al 0 (.slice x1 xs.length k1)).other (b:=n) al 1 (.slice x2 rs.length k2)
  have PX:=(o2.other (b:=n) al 0 (.slice x1 xs.length k1)).other (b:=n) al 1 (.slice x2 rs.length k2)
  have BX:=((HB0.out.trans (q8.mono al)).setCell (p:=⟨n,0,none⟩) (cE1 _) (.slice x1 xs.length k1)).setCell (p:=⟨n,1,none⟩) (cE1 _) (.slice x2 rs.length k2)
  have SX:((w8.setCell ⟨n,0,none⟩ (.slice x1 xs.length k1)).setCell ⟨n,1,none⟩ (.slice x2 rs.length k2)).heap.size=w8.heap.size:=an
  generalize (w8.setCell ⟨n,0,none⟩ (.slice x1 xs.length k1)).setCell ⟨n,1,none⟩ (.slice x2 rs.length k2)=wX at*
  clear c0 c1 c2 c3 c4 c5 f0 f1 f2 f3 f4 f5 hb0 q7 q8 HQ HT HA HL1 HL2 HB0 b7 b8 o1 o2
  have r0:=LX.cell 0
  have r1:=LX.cell 1
  simp at r0 r1
  obtain⟨A,hA⟩:∃A,A=w7.heap.size:=⟨_,rfl⟩
  obtain⟨B,hB⟩:∃B,B=w8.heap.size:=⟨_,rfl⟩
  rw[<-hA]at OX PX s7 s8
  rw[<-hB]at PX s8 SX
  rw[sd]at OX s7
  have HLX:=show Hid _ from LX
  have HMX:=show Hid _ from MX
  clear hA hB LX MX sd sW
  go_wp2_with fail
  clear r0 r1
  go_loopw [3,4,16] (fun _ _ i wr=>∃(k:Nat) (cs:List Value),k<=rs.length/\i=.int .i64 k/\D2 wr A B 23 1 (.slice x2 rs.length k2) rs.length cs/\(∀(i:Nat) (u:Value) (r:List Int),i<k->cs[i]? =some u->rs[i]? =some r->D2 wr B wr.heap.size 3 1 u r.length (ints r))/\
    (∀(i j:Nat) (u u':Value),i<j->j<k->cs[i]? =some u->cs[j]? =some u'->ai4 u u')/\(∀i,k<=i->cs[i]? =vs[i]?)/\D2 wr (n+1+1) A 3 1 (.slice x1 xs.length k1) xs.length (ints xs)/\D7 wr n [.slice x1 xs.length k1,.slice x2 rs.length k2]/\D7 wr (n+1) [.slice none 0 0,.slice none 0 0]/\Below n w wr/\B<=wr.heap.size) (fun _ _ i _=>rs.length-(intOf i).toNat)
  case atStart=>exact⟨0,vs,cG8 _,rfl,PX,fun i u r h=>by omega,fun i j u u' _ h=>by omega,fun i _=>rfl,OX,HLX.out,HMX.out,BX,Nat.le_of_eq SX.symm⟩
  case round=>
   obtain⟨k,cs,hk,rfl,ho,hrow,hdis,hrest,hvals,hL,hM,hb,hsz⟩:=hrel
   have HROW:=show Hid _ from hrow
   have HDIS:=show Hid _ from hdis
   have HREST:=show Hid _ from hrest
   have HLL:=show Hid _ from hL
   have HMM:=show Hid _ from hM
   have hcl:cs.length=rs.length:=by have:=ho.1.1;omega
   clear hrow hdis hrest OX PX BX SX HLX HMX
   have r1:=hL.cell 1
   simp at r1
   by_cases hlt:k<rs.length
   ·obtain⟨g,cap,hv,hg1,hg2,hg3,-,-,hfz,hcc⟩:=ho.open al
    cases hv
    have hkc:k<cs.length:=al
    obtain⟨u0,hu0⟩:∃u0,u0=cs[k]:=⟨_,rfl⟩
    have hcu:cs[k]? =some u0:=by rw[hu0];exact cD8 hkc
    have hvu:vs[k]? =some u0:=by rw[<-HREST.out k (cE1 _)];exact hcu
    have hrk:rs[k]? =some rs[k]:=cD8 hlt
    have hrow:=HR3.out wr hb k u0 rs[k] hvu hrk
    obtain⟨au,cu,rfl⟩:=hrow.form
    have hx:=hcc k _ hcu
    have f0:=hfz k
    have hlen:=hi rs[k] (cF3 hlt)
    have HCU:=show Hid _ from hcu
    have HHR:=show Hid _ from hrow
    have HHO:=show Hid _ from ho
    have HVA:=show Hid _ from hvals
    have HB:=show Hid _ from hb
    have HRK:=show Hid _ from hrk
    have hm1:rs.length<=9223372036854775807:=al
    have HRR:=show Hid (J0 wr.drew (.slice au rs[k].length cu) rs[k].length 1 (ints rs[k]))from HR3.out wr.drew hb.drew k _ rs[k] hvu hrk
    have h0g:n+1<g:=al
    clear hu0 hcc hfz hcu hvu hrow ho hvals hb hL hM hrk
    go_wp2_with fail
    go_region_with (go_at_call 46;refine(aQ4 _ rs[k] _ HRR.out al).mono ?_;rintro e w9 ⟨u9,rfl,o9,b9⟩;obtain⟨x9,k9,rfl⟩:=o9.form;have q9:=L0 b9 (Below.refl _ wr).drew (cE1 _);have f9:=((C4 q9).2 g k hg3).trans f0;have c9:=((C4 q9).1 g k hg3).trans hx;have r9:=((C4 q9).1 n 1 al).trans r1)
    all_goals
     have s9:=q9.size
     have sz9:wr.drew.heap.size=wr.heap.size:=rfl
     rw[sz9]at o9 b9
     clear f0 hx r1 f9 c9 r9 HRR
     go_wp2_with fail
     refine⟨⟨k+1,cs.set k (.slice x9 rs[k].length k9),al,by go_num,D2.setCell (D2.keep HHO.out q9 al) hkc _,?_,?_,?_,(D2.other (D2.keep HVA.out q9 al) (b:=g) al _ _),(D7.other (D7.below HLL.out q9 al) (p:=⟨g,k,none⟩) (by show n≠g;omega) _),(D7.other (D7.below HMM.out q9 al) (p:=⟨g,k,none⟩) (by show n+1≠g;omega) _),(HB.out.trans (q9.mono al)).setCell (p:=⟨g,k,none⟩) (by show n<=g;omega) _,ah⟩,by simp[intOf];omega⟩
     ·intro i u r hik hu hr'
      by_cases e:i=k
      ·subst e
       rw[List.getElem?_set_self hkc]at hu
       cases hu
       rw[HRK.out]at hr'
       cases hr'
       exact(o9.other (b:=g) al _ _).wide al an
      rw[List.getElem?_set_ne al]at hu
      exact(((HROW.out i u r al hu hr').keep q9 (cE1 _)).other (b:=g) al _ _).wide (cE1 _) (by simpa using s9)
     ·intro i j u u' hij hj hu hu'
      rw[List.getElem?_set_ne al]at hu
      by_cases e:j=k
      ·subst e
       rw[List.getElem?_set_self hkc]at hu'
       cases hu'
       exact a51 (HROW.out i u _ al hu (cD8 al)) o9 al
      rw[List.getElem?_set_ne al]at hu'
      exact HDIS.out i j u u' hij al hu hu'
     intro i hik
     rw[List.getElem?_set_ne al]
     exact HREST.out i al
   have hke:k=rs.length:=al
   subst hke
   have r0:=hL.cell 0
   have m0:=hM.cell 0
   have m1:=hM.cell 1
   have fm0:=hM.free 0
   have fm1:=hM.free 1
   simp at r0 m0 m1
   have hF:=((hM.set (j:=0) (.slice x1 xs.length k1)).set (j:=1) (.slice x2 rs.length k2))
   have BF:=(hb.setCell (p:=⟨n+1,0,none⟩) (by show n<=n+1;omega) (.slice x1 xs.length k1)).setCell (p:=⟨n+1,1,none⟩) (by show n<=n+1;omega) (.slice x2 rs.length k2)
   have OF:=(hvals.other (b:=n+1) al 0 (.slice x1 xs.length k1)).other (b:=n+1) al 1 (.slice x2 rs.length k2)
   have PF:=(ho.other (b:=n+1) al 0 (.slice x1 xs.length k1)).other (b:=n+1) al 1 (.slice x2 rs.length k2)
   have HRF:=show Hid (∀(i:Nat) (u:Value) (r:List Int),cs[i]? =some u->rs[i]? =some r->D2 ((wr.setCell ⟨n+1,0,none⟩ (.slice x1 xs.length k1)).setCell ⟨n+1,1,none⟩ (.slice x2 rs.length k2)) B wr.heap.size 3 1 u r.length (ints r))from fun i u r hu hr'=>
    ((HROW.out i u r (by have:=(cE7.1 hr').1;omega) hu hr').other (b:=n+1) al 0 _).other (b:=n+1) al 1 _
   have zF:((wr.setCell ⟨n+1,0,none⟩ (.slice x1 xs.length k1)).setCell ⟨n+1,1,none⟩ (.slice x2 rs.length k2)).heap.size=wr.heap.size:=an
   have y0:=hF.cell 0
   have y1:=hF.cell 1
   simp at y0 y1
   have HBF:=show Hid _ from BF
   have HOF:=show Hid _ from OF
   have HPF:=show Hid _ from PF
   have HZF:=show Hid _ from zF
   clear hF BF OF PF zF ho hvals hL hM hb
   go_wp2_with fail
   refine bodyPost_ret (v:=.agg #[.slice x1 xs.length k1,.slice x2 rs.length k2]) (by simp[results,Tryz.results56,go_sem,y0,y1]) rfl ⟨_,_,A,by rw[<-HN.out];omega,rfl,?_,⟨cs,?_,?_,?_,?_⟩,?_⟩
   ·rw[<-HN.out];exact D2.wide HOF.out al (cE1 _)
   ·exact D2.wide HPF.out (cE1 _) (by rw[HZF.out];omega)
   ·intro i u r hu hr'
    exact(HRF.out i u r hu hr').wide al (by rw[HZF.out];exact cE1 _)
   ·intro i j u u' hij hu hu'
    exact HDIS.out i j u u' hij (by have:=(cE7.1 hu').1;omega) hu hu'
   ·intro i u hu
    have hil:i<rs.length:=by have:=(cE7.1 hu).1;omega
    exact a51 (HRF.out i u _ hu (cD8 hil)) HPF.out al
   rw[<-HN.out];exact HBF.out
theorem b03{w:World}{φ:Nat->Prop}{v:Value}{m:List (List Int)}(h:RD w φ (.rows m) v):ae0 w v m:=by
 obtain⟨vs,h1,h2⟩:=h
 refine⟨vs,A6.row h1,fun i u r hu hr=>?_⟩
 have hi:i<m.length:=(cE7.1 hr).1
 obtain⟨u',a,b⟩:=h2 i hi
 rw[hu]at a;cases a
 rw[cD8 hi]at hr;cases hr
 exact A6.row b
theorem bO8{w:World}{lo hi:Nat}{v:Value}{m:List (List Int)}(h:P6 w lo hi v m):E4 w (fun b=>lo<=b/\b<hi) (.rows m) v:=by
 obtain⟨vs,h1,h2,h3,h4⟩:=h
 have hl:vs.length=m.length:=by have:=h1.1.1;omega
 refine⟨_,vs,fun b=>∃(i:Nat) (u:Value),vs[i]? =some u/\u.ownBlock=some b,rfl,G8 h1.1 (cG8 _),fun g hg=>⟨⟨(h1.lt g hg).1,(h1.lt g hg).2.1⟩,?_⟩,?_,aR8.tree ⟨hl,fun i hi'=>?_,fun i j u u' hij hu hu' g hg=>?_⟩⟩
 ·rintro⟨i,u,hu,hb⟩
  exact h4 i u hu g hb hg
 ·rintro b ⟨i,u,hu,hb⟩
  have hi':i<m.length:=by have:=(cE7.1 hu).1;omega
  have:=(h2 i u _ hu (cD8 hi')).lt b hb
  exact⟨this.1,this.2.1⟩
 ·have hv:i<vs.length:=al
  exact⟨vs[i],cD8 hv,fun _=>G8 (h2 i _ _ (cD8 hv) (cD8 hi')).1 (cG8 _),fun g hg=>⟨i,_,cD8 hv,hg⟩⟩
 exact h3 i j u u' hij hu hu' g hg
theorem cl5(m:z6)(hx:m.vals.length<=1048576)(hr:m.arrs.length<=1048576)(hi:∀r∈m.arrs,r.length<=1048576):j8.ok Tryz.prog ⟨56,[mA 0],mS m,mS m++mO m,mT 2⟩:=by
 intro ι φ ψ w0 w F ρ M
 have r1:=M.datAt (id:=0) (d:=.ints m.vals) rfl
 have r2:=M.datAt (id:=1) (d:=.rows m.arrs) rfl
 refine(b12 (ρ 0) (ρ 1) m.vals m.arrs w (A6.row r1) (b03 r2) hx hr hi).mono ?_
 rintro e w' ⟨u1,u2,mid,hmid,rfl,o1,o2,hbl⟩
 obtain⟨z,hz1,hz2⟩:=au3 u2 (fun b=>mid<=b/\b<w'.heap.size) w'.heap.size fun b h=>h.2
 refine⟨fun i=>if i=2 then u1 else if i=3 then z else ρ i,fun i hi=>?_,by simp[AV.val,AV.vals,hz1],?_⟩
 ·have:i<2:=hi
  simp only[if_neg (show ¬i=2 by omega),if_neg (show ¬i=3 by omega)]
 refine M.grow hbl (fun k=>k=.inr 2\/k=.inr 3) (fun k hk=>?_) ?_ ?_ ?_
 ·cases k with
  |inl i=>rfl
  |inr j=>
   match j,hk with
   |0,_=>rfl
   |1,_=>rfl
   |2,h=>exact absurd (.inl rfl) h
   |3,h=>exact absurd (.inr rfl) h
   |j+4,_=>rfl
 ·rintro k (rfl|rfl) b hb
  ·exact(o1.lt b hb).1
  exact cG3 hmid ((hz2 b).1 hb).1
 ·rintro j k b hjk (rfl|rfl) (rfl|rfl) hj hk
  ·exact hjk rfl
  ·have h1:=(o1.lt b hj).2.1
   have h2:=((hz2 b).1 hk).1
   omega
  ·have h1:=(o1.lt b hk).2.1
   have h2:=((hz2 b).1 hj).1
   omega
  exact hjk rfl
 rintro k (rfl|rfl)
 ·exact bC2 (G8 o1.1 (cG8 _))
 have e:A9 z=fun b=>mid<=b/\b<w'.heap.size:=funext fun b=>propext (hz2 b)
 show(Rs.own (A9 z) fun w=>E4 w (A9 z) (.rows m.arrs) (E5 z)).holds _ _
 rw[hz1,e]
 exact⟨fun _ _ h hs=>h.same hs,bO8 o2,fun b hb=>hb.2⟩
abbrev av1:It:=.box [.v (.slice none 0 0),.v (.slice none 0 0)]
abbrev aU1(b:List UInt8)(j:Int)(bit:Int)(p:i6)(m:z6):It:=.row 3 (D.ints (C9 b bit p.vars j m.vals m.vals.length).fst)
abbrev Y8(bit:Int)(r0:List (Nat×AV)):List (Nat×AV):=(0,.ptr 0 0)::(3,iA bit)::(5,.ptr 7 0)::(8,.ptr 8 0)::(9,.ptr 11 0)::r0
abbrev ak0(b:List UInt8)(p:i6)(m:z6)(r0:List It):List It:=dY b::dI p.vars::dI p.arrays::dT p.body::dI m.vals::dR m.arrs::.box (pL 2)::r0
theorem ba8(b:List UInt8)(j bit:Int)(p:i6)(m:z6)(hv:m.vals.length=p.vars.length)(ha:m.arrs.length=p.arrays.length)(hr:m.arrs.all X7=true)(r0:0<=j)(r1:j<=100000000)(r2:m.vals.length<=1000000/\m.arrs.length<=1000000)(hi:∀l∈m.arrs,l.length<=1048576):j8.ok Tryz.prog ⟨30,[.ptr 0 0,pA 2,mA 5,iA bit],[.box [.ref 1,iA j],dY b]++pS p++mS m,[.box [.ref 1,iA (scM b bit p m j).2],dY b]++pS p++mS m++mO (scM b bit p m j).1,mT 7⟩:=by
  refine D9 85 Tryz.func30 [.box [.ref 1,iA j],dY b,dI p.vars,dI p.arrays,dT p.body,dI m.vals,dR m.arrs] [(0,.ptr 0 0),(1,pA 2),(2,.agg [.ref 5,.ref 6]),(3,iA bit)] fun G=>?_
  have hvb:=fun k:Nat=>aV4 b bit p.vars j m.vals k
  have hvl:=aV4 b bit p.vars j m.vals m.vals.length;refine wp_seq (j7 G f8 [0,1,2,3,4,5,6,7,15,23] (.box [.ref 1,iA j]::(ak0 b p m [.box [.ref 5,.ref 6],av1])) [(0,.ptr 0 0),(3,iA bit),(5,.ptr 7 0),(6,.ptr 8 0),(8,.ptr 9 0)] fun G=>b6 (wp_seq (j7 G (x6 1 [5,6] (bV0 m.vals m.arrs al al ai)) [0,1,2,3,4,5,6,7,9,18,19,26] (.box [.ref 1,iA j]::(ak0 b p m [av1,.row 3 (D.ints m.vals),.tree (D.rows m.arrs),.box [.ref 9,.tref 10]])) (Y8 bit []) fun G=>b6 (wp_seq (wp_seq (C6 G f8 (Y8 bit [(10,iA 0)]) fun G=>b6 (wp_block ?_)))))));refine t9 (κ:=Nat) (fun i=>i<=m.vals.length) (fun i=>m.vals.length-i) (fun i=>[.box [.ref 1,iA (C9 b bit p.vars j m.vals i).2],dY b,dI p.vars,dI p.arrays,dT p.body,dI m.vals,dR m.arrs,.box (pL 2),.box [.v (.slice none 0 0),.v (.slice none 0 0)],.row 3 (.ints (C9 b bit p.vars j m.vals i).1),.tree (D.rows m.arrs),.box [.ref 9,.tref 10]]) (fun i=>[(0,.ptr 0 0),(3,iA bit),(5,.ptr 7 0),(8,.ptr 8 0),(9,.ptr 11 0),(10,iA i)]) 0 al (x7.at G _ _) ?_;clear G;intro i ρ a w hp G;replace G:=x7.at G (.box [.ref 1,iA (C9 b bit p.vars j m.vals i).snd]::(ak0 b p m [av1,.row 3 (D.ints (C9 b bit p.vars j m.vals i).fst),.tree (D.rows m.arrs),.box [.ref 9,.tref 10]])) (Y8 bit [(10,iA i)]);have hs1:=aV4 b bit p.vars j m.vals i;refine wp_seq (wp_seq ?_);cases h0:(decide ((i:Int)<((C9 b bit p.vars j m.vals i).fst.length:Int)))
  ·
   have q0:=dFf h0
   obtain rfl:i=m.vals.length:=al
   refine l6 G (H2 (fc (a:=decide ((m.vals.length:Int)<((C9 b bit p.vars j m.vals m.vals.length).fst.length:Int))) (b:=false) ai fz) (us [(6,10,0),(1011,1011,0)])) [(10,iA (m.vals.length:Int)),(26,bA false)] fun G=>b6 (rF G false aj (wp_exit (t4 (t4 (t3 (b6 (wp_seq (wp_seq (C6 G f8 (Y8 bit [(11,iA 0)]) fun G=>b6 (wp_block ?_))))))))));refine t9 (κ:=Nat) (fun i2=>i2<=m.arrs.length) (fun i2=>m.arrs.length-i2) (fun i2=>[.box [.ref 1,iA (scA b bit p.arrays (C9 b bit p.vars j m.vals m.vals.length).2 m.arrs i2).2],dY b,dI p.vars,dI p.arrays,dT p.body,dI m.vals,dR m.arrs,.box (pL 2),.box [.v (.slice none 0 0),.v (.slice none 0 0)],.row 3 (D.ints (C9 b bit p.vars j m.vals m.vals.length).fst),.tree (.rows (scA b bit p.arrays (C9 b bit p.vars j m.vals m.vals.length).2 m.arrs i2).1),.box [.ref 9,.tref 10]]) (fun i2=>[(0,.ptr 0 0),(3,iA bit),(5,.ptr 7 0),(8,.ptr 8 0),(9,.ptr 11 0),(11,iA i2)]) 0 al (x7.at G _ _) ?_;clear G;intro i2 ρ a w hp G;replace G:=x7.at G (.box [.ref 1,iA (scA b bit p.arrays (C9 b bit p.vars j m.vals m.vals.length).snd m.arrs i2).snd]::(ak0 b p m [av1,aU1 b j bit p m,.tree (D.rows (scA b bit p.arrays (C9 b bit p.vars j m.vals m.vals.length).snd m.arrs i2).fst),.box [.ref 9,.tref 10]])) (Y8 bit [(11,iA i2)]);have hs2:=aL8 b bit p.arrays (C9 b bit p.vars j m.vals m.vals.length).2 m.arrs i2;refine wp_seq (wp_seq ?_);cases h3:(decide ((i2:Int)<((scA b bit p.arrays (C9 b bit p.vars j m.vals m.vals.length).snd m.arrs i2).fst.length:Int)))
   ·
    have q3:=dFf h3
    obtain rfl:i2=m.arrs.length:=al
    refine l6 G (H2 (fc (a:=decide ((m.arrs.length:Int)<((scA b bit p.arrays (C9 b bit p.vars j m.vals m.vals.length).snd m.arrs m.arrs.length).fst.length:Int))) (b:=false) ai fz) (us [(6,10,0),(1011,1011,0)])) [(11,iA (m.arrs.length:Int)),(54,bA false)] fun G=>b6 (rF G false aj (wp_exit (t4 (t4 (t3 (b6 (wp_seq (j7 G f8 [0,1,2,3,4,5,6,8,9,10] [.box [.ref 1,iA (scA b bit p.arrays (C9 b bit p.vars j m.vals m.vals.length).snd m.arrs m.arrs.length).snd],dY b,dI p.vars,dI p.arrays,dT p.body,dI m.vals,dR m.arrs,.box [.ref 8,.tref 9],aU1 b j bit p m,.tree (D.rows (scA b bit p.arrays (C9 b bit p.vars j m.vals m.vals.length).snd m.arrs m.arrs.length).fst)] [(8,.ptr 7 0)] fun G=>b6 (wp_ret ?_)))))))));exact G7 G [0,1,2,3,4,5,6,8,9]
   have q3:=dTt h3;refine C6 G (H2 (fc h3 fz) (us [(6,10,0),(1011,1011,0)])) (Y8 bit [(11,iA i2),(54,bA (decide ((i2:Int)<p.arrays.length)))]) fun G=>b6 ?_;cases h4:(decide ((i2:Int)<p.arrays.length))
   · have q4:=dFf h4;exact False.elim al
   have q4:=dTt h4;refine rT G _ h4 (wp_skip (b6 (wp_seq (wp_block (wp_seq (C6 G f8 (Y8 bit [(11,iA i2),(12,iA 0)]) fun G=>b6 (wp_block ?_)))))));replace G:=G.as (.box [.ref 1,iA (O0 b bit p.arrays (C9 b bit p.vars j m.vals m.vals.length).snd m.arrs i2 0).snd]::(ak0 b p m [.box [.v (.slice none 0 0),.v (.slice none 0 0)],.row 3 (D.ints (C9 b bit p.vars j m.vals m.vals.length).fst),.tree (D.rows (O0 b bit p.arrays (C9 b bit p.vars j m.vals m.vals.length).snd m.arrs i2 0).fst),.box [.ref 9,.tref 10]])) (Y8 bit [(11,iA i2),(12,iA 0)]) (by have e1:((O0 b bit p.arrays (C9 b bit p.vars j m.vals m.vals.length).snd m.arrs i2 0).snd:Int)=((scA b bit p.arrays (C9 b bit p.vars j m.vals m.vals.length).snd m.arrs i2).snd):=(by rw[b71 al];done);have e2:((O0 b bit p.arrays (C9 b bit p.vars j m.vals m.vals.length).snd m.arrs i2 0).fst:List (List Int))=((scA b bit p.arrays (C9 b bit p.vars j m.vals m.vals.length).snd m.arrs i2).fst):=(by rw[b71 al];done);(first|rw[e1,e2]|simp only[e1,e2])<;>rfl) aj;refine t9 (κ:=Nat) (fun k2=>k2<=4) (fun k2=>4-k2) (fun k2=>[.box [.ref 1,iA (O0 b bit p.arrays (C9 b bit p.vars j m.vals m.vals.length).2 m.arrs i2 k2).2],dY b,dI p.vars,dI p.arrays,dT p.body,dI m.vals,dR m.arrs,.box (pL 2),.box [.v (.slice none 0 0),.v (.slice none 0 0)],.row 3 (D.ints (C9 b bit p.vars j m.vals m.vals.length).fst),.tree (.rows (O0 b bit p.arrays (C9 b bit p.vars j m.vals m.vals.length).2 m.arrs i2 k2).1),.box [.ref 9,.tref 10]]) (fun k2=>[(0,.ptr 0 0),(3,iA bit),(5,.ptr 7 0),(8,.ptr 8 0),(9,.ptr 11 0),(11,iA i2),(12,iA k2)]) 0 al (x7.at G _ _) ?_;clear G;intro k2 ρ a w hp G;replace G:=x7.at G (.box [.ref 1,iA (O0 b bit p.arrays (C9 b bit p.vars j m.vals m.vals.length).snd m.arrs i2 k2).snd]::(ak0 b p m [av1,aU1 b j bit p m,.tree (D.rows (O0 b bit p.arrays (C9 b bit p.vars j m.vals m.vals.length).snd m.arrs i2 k2).fst),.box [.ref 9,.tref 10]])) (Y8 bit [(11,iA i2),(12,iA k2)]);have ha4:=cw1 (m:=m) hr (i:=i2) al;have hs3:=cn4 (b:=b) (bit:=bit) (ls:=p.arrays) (j:=(C9 b bit p.vars j m.vals m.vals.length).2) (rs:=m.arrs) (i:=i2) (k:=k2);have hs4:=bZ0 (b:=b) (bit:=bit) (ls:=p.arrays) (j:=(C9 b bit p.vars j m.vals m.vals.length).2) (rs:=m.arrs) (i:=i2) (k:=k2) al ha4 al;refine wp_seq (wp_seq (R9 G f8 [0,1,2,3,4,5,6,7,8,9,10,11,52] [.box [.ref 1,iA (O0 b bit p.arrays (C9 b bit p.vars j m.vals m.vals.length).snd m.arrs i2 k2).snd],dY b,dI p.vars,dI p.arrays,dT p.body,dI m.vals,dR m.arrs,.box (pL 2),.box [.v (.slice none 0 0),.v (.slice none 0 0)],.row 3 (D.ints (C9 b bit p.vars j m.vals m.vals.length).fst),.hole 12 i2 (O0 b bit p.arrays (C9 b bit p.vars j m.vals m.vals.length).snd m.arrs i2 k2).fst,.box [.ref 9,.tref 10],.row 3 (D.ints ((O0 b bit p.arrays (C9 b bit p.vars j m.vals m.vals.length).snd m.arrs i2 k2).fst.getD i2 []))] (Y8 bit [(11,iA i2),(12,iA k2),(64,bA (decide ((k2:Int)<(((O0 b bit p.arrays (C9 b bit p.vars j m.vals m.vals.length).snd m.arrs i2 k2).fst.getD i2 []).length:Int))))]) (iX i2 i2 ((O0 b bit p.arrays (C9 b bit p.vars j m.vals m.vals.length).snd m.arrs i2 k2).fst.length) []) (iK al cF1) fun G=>?_))
   replace G:=G.heal0 10 12 i2 ((O0 b bit p.arrays (C9 b bit p.vars j m.vals m.vals.length).snd m.arrs i2 k2).fst) [.box [.ref 1,iA (O0 b bit p.arrays (C9 b bit p.vars j m.vals m.vals.length).snd m.arrs i2 k2).snd],dY b,dI p.vars,dI p.arrays,dT p.body,dI m.vals,dR m.arrs,.box (pL 2),.box [.v (.slice none 0 0),.v (.slice none 0 0)],.row 3 (D.ints (C9 b bit p.vars j m.vals m.vals.length).fst),.tree (D.rows (O0 b bit p.arrays (C9 b bit p.vars j m.vals m.vals.length).snd m.arrs i2 k2).fst),.box [.ref 9,.tref 10],.dead];refine b6 ?_;cases h5:(decide ((k2:Int)<(((O0 b bit p.arrays (C9 b bit p.vars j m.vals m.vals.length).snd m.arrs i2 k2).fst.getD i2 []).length:Int)))
   ·
    have q5:=dFf h5
    obtain rfl:k2=4:=al
    refine rF G (decide ((↑(4:Nat):Int)<(((O0 b bit p.arrays (C9 b bit p.vars j m.vals m.vals.length).snd m.arrs i2 (4:Nat)).fst.getD i2 []).length:Int))) ai (wp_exit (t4 (t4 (t3 (m8 (b6 (R9 G f8 (rg 12) (.box [.ref 1,iA (O0 b bit p.arrays (C9 b bit p.vars j m.vals m.vals.length).snd m.arrs i2 4).snd]::(ak0 b p m [av1,aU1 b j bit p m,.tree (D.rows (O0 b bit p.arrays (C9 b bit p.vars j m.vals m.vals.length).snd m.arrs i2 4).fst),.box [.ref 9,.tref 10]])) (Y8 bit [(11,iA ((i2:Int)+1))]) [wO ((i2:Int)+1)] (o1 al) fun G=>b6 ?_)))))));exact P7 G (i2+1) al al (rg 12) (by have e1:((scA b bit p.arrays (C9 b bit p.vars j m.vals m.vals.length).snd m.arrs (i2+1)).snd:Int)=((O0 b bit p.arrays (C9 b bit p.vars j m.vals m.vals.length).snd m.arrs i2 4).snd):=(by rw[<-bv2 al ha4];done);have e2:((scA b bit p.arrays (C9 b bit p.vars j m.vals m.vals.length).snd m.arrs (i2+1)).fst:List (List Int))=((O0 b bit p.arrays (C9 b bit p.vars j m.vals m.vals.length).snd m.arrs i2 4).fst):=(by rw[<-bv2 al ha4];done);(first|rw[e1,e2]|simp only[e1,e2])<;>rfl)
   have q5:=dTt h5;refine rT G _ h5 (wp_skip (b6 (wp_seq (wp_block (wp_seq (R9 G f8 (rg 12) (.box [.ref 1,iA (O0 b bit p.arrays (C9 b bit p.vars j m.vals m.vals.length).snd m.arrs i2 k2).snd]::(ak0 b p m [av1,aU1 b j bit p m,.tree (D.rows (O0 b bit p.arrays (C9 b bit p.vars j m.vals m.vals.length).snd m.arrs i2 k2).fst),.box [.ref 9,.tref 10]])) (Y8 bit [(11,iA i2),(12,iA k2),(74,bA (a65 (p.arrays.getD i2 0) bit !=0))]) (iX i2 i2 p.arrays.length []) (iK al cF1) fun G=>b6 (rcN G (fun h6 q6=>?_) fun h6 q6=>?_)))))))
   · refine wp_skip (m8 (b6 (H0 G f8 [(12,iA ((k2:Int)+1))] [wO ((k2:Int)+1)] (o1 al) fun G=>b6 ?_)));exact P7 G (k2+1) al al (rg 12) (by have e1:((O0 b bit p.arrays (C9 b bit p.vars j m.vals m.vals.length).snd m.arrs i2 (k2+1)).snd:Int)=((O0 b bit p.arrays (C9 b bit p.vars j m.vals m.vals.length).snd m.arrs i2 k2).snd):=(by rw[b70 (zbf al)];done);have e2:((O0 b bit p.arrays (C9 b bit p.vars j m.vals m.vals.length).snd m.arrs i2 (k2+1)).fst:List (List Int))=((O0 b bit p.arrays (C9 b bit p.vars j m.vals m.vals.length).snd m.arrs i2 k2).fst):=(by rw[b70 (zbf al)];done);(first|rw[e1,e2]|simp only[e1,e2])<;>rfl)
   refine K7 G (x6 7 [0,1] (ag2 b ((O0 b bit p.arrays (C9 b bit p.vars j m.vals m.vals.length).snd m.arrs i2 k2).snd) al al)) [0,1,0,7,15,0,0,64,255,511] [0,1,2,3,4,5,6,7,8,9,10,11,44] [.box [.ref 1,iA ((O0 b bit p.arrays (C9 b bit p.vars j m.vals m.vals.length).snd m.arrs i2 k2).snd+1)],dY b,dI p.vars,dI p.arrays,dT p.body,dI m.vals,dR m.arrs,.box (pL 2),.box [.v (.slice none 0 0),.v (.slice none 0 0)],.row 3 (D.ints (C9 b bit p.vars j m.vals m.vals.length).fst),.hole 12 i2 (O0 b bit p.arrays (C9 b bit p.vars j m.vals m.vals.length).snd m.arrs i2 k2).fst,.box [.ref 9,.tref 10],.row 3 (D.ints (((O0 b bit p.arrays (C9 b bit p.vars j m.vals m.vals.length).snd m.arrs i2 k2).fst.getD i2 []).set k2 (nm b (O0 b bit p.arrays (C9 b bit p.vars j m.vals m.vals.length).snd m.arrs i2 k2).snd vaL)))] (Y8 bit [(11,iA i2),(12,iA k2)]) (iX i2 i2 ((O0 b bit p.arrays (C9 b bit p.vars j m.vals m.vals.length).snd m.arrs i2 k2).fst.length) (iX k2 k2 (((O0 b bit p.arrays (C9 b bit p.vars j m.vals m.vals.length).snd m.arrs i2 k2).fst.getD i2 []).length) [])) (iK al (iK al cF1)) fun G=>?_;replace G:=G.heal 10 12 i2 ((O0 b bit p.arrays (C9 b bit p.vars j m.vals m.vals.length).snd m.arrs i2 k2).fst) (((O0 b bit p.arrays (C9 b bit p.vars j m.vals m.vals.length).snd m.arrs i2 k2).fst.getD i2 []).set k2 (nm b (O0 b bit p.arrays (C9 b bit p.vars j m.vals m.vals.length).snd m.arrs i2 k2).snd vaL)) (.box [.ref 1,iA ((O0 b bit p.arrays (C9 b bit p.vars j m.vals m.vals.length).snd m.arrs i2 k2).snd+1)]::(ak0 b p m [.box [.v (.slice none 0 0),.v (.slice none 0 0)],.row 3 (D.ints (C9 b bit p.vars j m.vals m.vals.length).fst),.tree (D.rows ((O0 b bit p.arrays (C9 b bit p.vars j m.vals m.vals.length).snd m.arrs i2 k2).fst.set i2 (((O0 b bit p.arrays (C9 b bit p.vars j m.vals m.vals.length).snd m.arrs i2 k2).fst.getD i2 []).set k2 (nm b (O0 b bit p.arrays (C9 b bit p.vars j m.vals m.vals.length).snd m.arrs i2 k2).snd vaL)))),.box [.ref 9,.tref 10],.dead]));refine m8 (b6 (R9 G f8 (rg 12) (.box [.ref 1,iA ((O0 b bit p.arrays (C9 b bit p.vars j m.vals m.vals.length).snd m.arrs i2 k2).snd+1)]::(ak0 b p m [av1,aU1 b j bit p m,.tree (D.rows ((O0 b bit p.arrays (C9 b bit p.vars j m.vals m.vals.length).snd m.arrs i2 k2).fst.set i2 (((O0 b bit p.arrays (C9 b bit p.vars j m.vals m.vals.length).snd m.arrs i2 k2).fst.getD i2 []).set k2 (nm b (O0 b bit p.arrays (C9 b bit p.vars j m.vals m.vals.length).snd m.arrs i2 k2).snd vaL)))),.box [.ref 9,.tref 10]])) (Y8 bit [(11,iA i2),(12,iA ((k2:Int)+1))]) [wO ((k2:Int)+1)] (o1 al) fun G=>b6 ?_));exact P7 G (k2+1) al al (rg 12) (by have e1:((O0 b bit p.arrays (C9 b bit p.vars j m.vals m.vals.length).snd m.arrs i2 (k2+1)).snd:Int)=((O0 b bit p.arrays (C9 b bit p.vars j m.vals m.vals.length).snd m.arrs i2 k2).snd+1):=(by rw[b69 al ha4 al (zbt al)];done);have e2:((O0 b bit p.arrays (C9 b bit p.vars j m.vals m.vals.length).snd m.arrs i2 (k2+1)).fst:List (List Int))=((O0 b bit p.arrays (C9 b bit p.vars j m.vals m.vals.length).snd m.arrs i2 k2).fst.set i2 (((O0 b bit p.arrays (C9 b bit p.vars j m.vals m.vals.length).snd m.arrs i2 k2).fst.getD i2 []).set k2 (nm b (O0 b bit p.arrays (C9 b bit p.vars j m.vals m.vals.length).snd m.arrs i2 k2).snd vaL))):=(by rw[b69 al ha4 al (zbt al)];done);(first|rw[e1,e2]|simp only[e1,e2])<;>rfl)
  have q0:=dTt h0;refine C6 G (H2 (fc h0 fz) (us [(6,10,0),(1011,1011,0)])) (Y8 bit [(10,iA i),(26,bA (decide ((i:Int)<p.vars.length)))]) fun G=>b6 ?_;cases h1:(decide ((i:Int)<p.vars.length))
  · have q1:=dFf h1;exact False.elim al
  have q1:=dTt h1;refine rT G _ h1 (wp_skip (b6 (wp_seq (wp_block (wp_seq (H0 G f8 [(36,bA (a65 (p.vars.getD i 0) bit !=0))] (iX i i p.vars.length []) (iK al cF1) fun G=>b6 (rcN G (fun h2 q2=>?_) fun h2 q2=>?_)))))))
  · refine wp_skip (m8 (b6 (H0 G f8 [(10,iA ((i:Int)+1))] [wO ((i:Int)+1)] (o1 al) fun G=>b6 ?_)));exact P7 G (i+1) al al (rg 12) (by have e1:((C9 b bit p.vars j m.vals (i+1)).snd:Int)=((C9 b bit p.vars j m.vals i).snd):=(by rw[b68 (zbf al)];done);have e2:((C9 b bit p.vars j m.vals (i+1)).fst:List Int)=((C9 b bit p.vars j m.vals i).fst):=(by rw[b68 (zbf al)];done);(first|rw[e1,e2]|simp only[e1,e2])<;>rfl)
  refine K7 G (x6 4 [0,1] (ag2 b ((C9 b bit p.vars j m.vals i).snd) al al)) [0,1,0,0,8,31,63] (rg 12) (.box [.ref 1,iA ((C9 b bit p.vars j m.vals i).snd+1)]::(ak0 b p m [av1,.row 3 (D.ints ((C9 b bit p.vars j m.vals i).fst.set i (nm b (C9 b bit p.vars j m.vals i).snd vaL))),.tree (D.rows m.arrs),.box [.ref 9,.tref 10]])) (Y8 bit [(10,iA i)]) (iX i i ((C9 b bit p.vars j m.vals i).fst.length) []) (iK al cF1) fun G=>m8 (b6 (H0 G f8 [(10,iA ((i:Int)+1))] [wO ((i:Int)+1)] (o1 al) fun G=>b6 ?_));exact P7 G (i+1) al al (rg 12) (by have e1:((C9 b bit p.vars j m.vals (i+1)).snd:Int)=((C9 b bit p.vars j m.vals i).snd+1):=(by rw[b67 (zbt al)];done);have e2:((C9 b bit p.vars j m.vals (i+1)).fst:List Int)=((C9 b bit p.vars j m.vals i).fst.set i (nm b (C9 b bit p.vars j m.vals i).snd vaL)):=(by rw[b67 (zbt al)];done);(first|rw[e1,e2]|simp only[e1,e2])<;>rfl)
theorem bh1(b:List UInt8)(j bit:Int)(vs ars:List Int)(bd:List c6)(xs:List Int)(rs:List (List Int))(hv:xs.length=vs.length)(ha:rs.length=ars.length)(hr:rs.all X7=true)(r0:0<=j)(r1:j<=100000000)(r2:xs.length<=1000000/\rs.length<=1000000)(hi:∀l∈rs,l.length<=1048576):j8.ok Tryz.prog ⟨30,[.ptr 0 0,pA 2,mA 5,iA bit],[.box [.ref 1,iA j],dY b,dI vs,dI ars,dT bd,dI xs,dR rs],[.box [.ref 1,iA (scM b bit ⟨vs,ars,bd⟩ ⟨xs,rs⟩ j).2],dY b,dI vs,dI ars,dT bd,dI xs,dR rs]++mO (scM b bit ⟨vs,ars,bd⟩ ⟨xs,rs⟩ j).1,mT 7⟩:=
 ba8 b j bit ⟨vs,ars,bd⟩ ⟨xs,rs⟩ hv ha hr r0 r1 r2 hi
theorem bD4(w:World)(he:b55 (fun _=>True) w:=by intro _ _;trivial):l9 (fun _=>True) (fun _=>True) w w (s4 (fun _:Empty=>Rs.none) (fun _=>undef) (t2 [])):=by
 refine(l9.start (ι:=Empty ⊕ Nat) (w0:=w) (φ:=fun _=>True) (ψ:=fun _=>True) (fun _ _=>trivial) he).map (fun k=>some k) (fun k k' i a b=>by cases a;cases b;rfl) fun k=>?_
 cases k with
 |inl e=>exact e.elim
 |inr j=>exact .inr rfl
theorem bH1(w:World):Agr (fun _=>True) (FrF (fun _=>True) (s4 (fun _:Empty=>Rs.none) (fun _=>undef) (t2 []))) w w:=Agr.mono fun b _ _=>⟨cF1,fun i=>by
 cases i with
 |inl e=>exact e.elim
 |inr j=>exact fun h=>h.elim⟩
abbrev u8s(c:List UInt8):List Value:=c.map fun b=>Value.int .u8 (b.toNat:Int)
theorem bG3{P:Program}{f:FuncId}{x:Value}{c:List UInt8}{post:List It}(hc:j8.ok P ⟨f,[.ref 0],[dY c],post,.v x⟩)(u:Value)(w:World)(hp:A6 w (fun _=>True) u c.length 1 (u8s c))(he:b55 (fun _=>True) w:=by intro _ _;trivial):
  Calls P f #[u] w fun e w'=>e=.returned x/\Below w.heap.size w w':=by
 obtain⟨ρ',g1,M2,g2⟩:=l9.dats [.sl (.bytes c)] [u] 0 (bD4 w he) ⟨RD.nice (.bytes c) _ _ _ _ _ (bH1 w) hp,cF1⟩ (fun _ _=>rfl) (fun _ _ _=>rfl)
 have e:t0 (t2 []) (Y3 [.sl (.bytes c)] 0)=t2 [dY c]:=by
  funext j
  match j with
  |0=>rfl
  |j+1=>simp[Y3,t0,t2]
 rw[e]at M2
 simp only[xav,AV.vals,AV.val,List.cons.injEq,and_true]at g2
 subst g2
 refine(hc Empty _ _ w w _ ρ' M2).mono ?_
 rintro e w' ⟨ρ2,-,rfl,M3⟩
 exact⟨rfl,M3.below fun _ _=>trivial⟩
structure Okd(p q:i6)(m:z6):Prop where
 bp:j6 p.body<=1048576
 bq:j6 q.body<=1048576
 qv:q.vars.length<=1000000
 mv:m.vals.length<=1000000
 ma:m.arrs.length<=1000000
 mi:∀l∈m.arrs,l.length<=1000
section
variable{p:i6}{e:c7}
end
theorem bO6(b:List UInt8){j:Int}(nv na:Nat)(r0:0<=j)(r1:j+nv+4*na<=100000000):(mmD b j nv na).vals.length=nv/\(mmD b j nv na).arrs.length=na/\J3 (mmD b j nv na).vals=true/\(mmD b j nv na).arrs.all X7=true:=by
 refine⟨as3 _ _ _,bW0 _ _ _,bj5 b r0 nv al,?_⟩
 rw[cE2]
 intro x hx
 unfold X7
 rw[cD5]
 refine⟨by rw[cw3 _ _ _ x hx];rfl,?_⟩
 obtain⟨k,hk,rfl⟩:=ar_mem hx
 exact bj5 b al 4 al
where
 ar_mem {b:List UInt8} {j:Int} {n:Nat} {x:List Int} (h:x∈arD b j n):∃k:Nat,k<n/\vlD b (j+4*k) 4=x:=by
  unfold arD at h
  obtain⟨i,hi,rfl⟩:=List.mem_map.1 h
  exact⟨i,cH4.1 hi,rfl⟩
def gX(nv na:Nat)(L:Int)(x:d9):Prop:=
 (x.op=1/\(0<=x.a/\x.a<=13)/\(0<=x.b/\x.b<=255)/\x.c=0/\x.d=0)\/
 (x.op=2/\(0<=x.a/\x.a<=13)/\(0<=x.b/\x.b<nv)/\x.c=0/\x.d=0)\/
 (x.op=3/\(0<=x.a/\x.a<nv)/\(0<=x.b/\x.b<=13)/\x.c=0/\x.d=0)\/
 (x.op=4/\(0<=x.a/\x.a<=13)/\(0<=x.b/\x.b<na)/\(0<=x.c/\x.c<=13)/\x.d=0)\/
 (x.op=5/\(0<=x.a/\x.a<na)/\(0<=x.b/\x.b<=13)/\(0<=x.c/\x.c<=13)/\x.d=0)\/
 (x.op=6/\(0<=x.a/\x.a<=13)/\(4<=x.b/\x.b<=10)/\(0<=x.c/\x.c<=13)/\(0<=x.d/\x.d<=13))\/
 (x.op=7/\(0<=x.a/\x.a<=13)/\(0<=x.b/\x.b<=13)/\(0<=x.c/\x.c<=13)/\(0<=x.d/\x.d<=13))\/
 (x.op=8/\(0<=x.a/\x.a<L)/\x.b=0/\x.c=0/\x.d=0)\/
 (x.op=9/\(0<=x.a/\x.a<=13)/\(0<=x.b/\x.b<L)/\x.c=0/\x.d=0)\/
 (x.op=10/\(0<=x.a/\x.a<=13)/\(0<=x.b/\x.b<L)/\x.c=0/\x.d=0)\/
 (x.op=11/\(0<=x.a/\x.a<=13)/\x.b=0/\x.c=0/\x.d=0)
def gL(nv na:Nat)(L:Int)(l:List d9):Prop:=∀x∈l,gX nv na L x
theorem cf1{nv na:Nat}{L:Int}{a b:List d9}(h:gL nv na L a)(k:gL nv na L b):gL nv na L (a++b):=by
 intro x hx
 rcases cG2.1 hx with hx|hx
 ·exact h x hx
 exact k x hx
theorem a48{nv na:Nat}{L:Int}{a:d9}(h:gX nv na L a):gL nv na L [a]:=by
 intro x hx
 rw[cG7]at hx
 subst hx;exact h
def Gd(nv na:Nat)(L:Int)(x y:M0):Prop:=∃ys,y.1=x.1++ys/\gL nv na L ys
theorem Gd.refl{nv na:Nat}{L:Int}(x:M0):Gd nv na L x x:=⟨[],an,fun x hx=>by cases hx⟩
theorem Gd.trans{nv na:Nat}{L:Int}{x y z:M0}(h:Gd nv na L x y)(k:Gd nv na L y z):Gd nv na L x z:=by
 obtain⟨a,a1,a2⟩:=h
 obtain⟨b,b1,b2⟩:=k
 exact⟨a++b,by rw[b1,a1,cI0],cf1 a2 b2⟩
theorem Gd.add{nv na:Nat}{L:Int}{x:M0}{n:Int}{c:List d9}(h:gL nv na L c):Gd nv na L x (J7 x n c):=⟨c,rfl,h⟩
theorem cc2:(0:Int)<=0/\(0:Int)<=13:=ak
theorem cz5:(0:Int)<=1/\(1:Int)<=13:=ak
theorem g1{nv na:Nat}{L a b:Int}(h1:0<=a/\a<=13)(h2:0<=b/\b<=255):gL nv na L [⟨1,a,b,0,0⟩]:=a48 (.inl ⟨rfl,h1,h2,rfl,rfl⟩)
theorem g3{nv na:Nat}{L a:Int}(h1:0<=a/\a<nv):gL nv na L [⟨3,a,0,0,0⟩]:=a48 (.inr (.inr (.inl ⟨rfl,h1,cc2,rfl,rfl⟩)))
theorem g5{nv na:Nat}{L a:Int}(h1:0<=a/\a<na):gL nv na L [⟨5,a,1,0,0⟩]:=a48 (.inr (.inr (.inr (.inr (.inl ⟨rfl,h1,cz5,cc2,rfl⟩)))))
theorem g8{nv na:Nat}{L a:Int}(h1:0<=a/\a<L):gX nv na L ⟨8,a,0,0,0⟩:=.inr (.inr (.inr (.inr (.inr (.inr (.inr (.inl ⟨rfl,h1,rfl,rfl,rfl⟩)))))))
theorem g9{nv na:Nat}{L b:Int}(h1:0<=b/\b<L):gX nv na L ⟨9,0,b,0,0⟩:=.inr (.inr (.inr (.inr (.inr (.inr (.inr (.inr (.inl ⟨rfl,cc2,h1,rfl,rfl⟩))))))))
theorem g10{nv na:Nat}{L a b:Int}(h0:0<=a/\a<=13)(h1:0<=b/\b<L):gL nv na L [⟨10,a,b,0,0⟩]:=a48 (.inr (.inr (.inr (.inr (.inr (.inr (.inr (.inr (.inr (.inl ⟨rfl,h0,h1,rfl,rfl⟩))))))))))
def inV(x:Int):Prop:=0<=x/\x<=255
theorem cs0{l:List Int}(h:∀x∈l,inV x)(i:Nat):inV (l.getD i 0):=by
 rw[cD7]
 cases hx:l[i]? with
 |none=>exact⟨Int.le_refl _,ak⟩
 |some x=>exact h x (cG0 hx)
theorem b99{l:List Int}(h:J3 l=true):∀x∈l,inV x:=fun x hx=>by
 have:=cE2.1 h x hx
 simpa[inV]using this
theorem cy8{l:List (List Int)}(h:l.all X7=true)(i:Nat):∀x∈l.getD i [],inV x:=by
 rw[cD7]
 cases hx:l[i]? with
 |none=>intro x hx;simp at hx
 |some r=>
  have:=cE2.1 h r (cG0 hx)
  unfold X7 at this
  rw[cD5]at this
  exact b99 this.2
structure Pub(vs ars:List Int)(a b:z6):Prop where
 v:∀i:Nat,zB 1 (vs.getD i 0)=false->a.vals.getD i 0=b.vals.getD i 0
 a:∀i:Nat,zB 1 (ars.getD i 0)=false->a.arrs.getD i []=b.arrs.getD i []
theorem ca8(b:List UInt8)(p:i6)(m:z6)(j:Int):Pub p.vars p.arrays m (scM b 1 p m j).1 where
 v i h:=(bv1 b 1 p.vars j m.vals i h _).symm
 a i h:=(a19 b 1 p.arrays _ m.arrs i _ (.inr h)).symm
theorem ca9(b:List UInt8){bit:Int}(p:i6)(m:z6){j:Int}(hv:m.vals.length=p.vars.length)(ha:m.arrs.length=p.arrays.length)(h1:J3 m.vals=true)(h2:m.arrs.all X7=true)(r0:0<=j)(r1:j+m.vals.length+4*m.arrs.length<=1000000000):L4 p.vars.length p.arrays.length (scM b bit p m j).1=true:=by
 have a1:=aV4 b bit p.vars j m.vals m.vals.length
 have a2:=aL8 b bit p.arrays (C9 b bit p.vars j m.vals m.vals.length).2 m.arrs m.arrs.length
 unfold L4 scM
 dsimp only
 rw[a18 b bit p.vars m.vals h1 r0 _ al,bv3 b bit p.arrays m.arrs h2 al _ al,a1.1,a2.1,decide_eq_true hv,decide_eq_true ha]
 rfl
structure y5 where
 pc:Int
 regs:List Int
 mem:z6
def stR(m:z6)(x:d9)(r:List Int):List Int:=
 if x.op=1 then r.set x.a.toNat x.b
 else if x.op=2 then r.set x.a.toNat (m.vals.getD x.b.toNat 0)
 else if x.op=4 then r.set x.a.toNat ((m.arrs.getD x.b.toNat []).getD ((r.getD x.c.toNat 0).tmod 4).toNat 0)
 else if x.op=6 then r.set x.a.toNat (N8 x.b (r.getD x.c.toNat 0) (r.getD x.d.toNat 0))
 else if x.op=7 then r.set x.a.toNat (if r.getD x.b.toNat 0=0 then r.getD x.d.toNat 0 else r.getD x.c.toNat 0)
 else if x.op=10 then r.set x.a.toNat ((r.getD x.a.toNat 0+255).tmod 256)
 else r
def stM(m:z6)(x:d9)(r:List Int):z6:=
 if x.op=3 then⟨m.vals.set x.a.toNat (r.getD x.b.toNat 0),m.arrs⟩
 else if x.op=5 then⟨m.vals,m.arrs.set x.a.toNat ((m.arrs.getD x.a.toNat []).set ((r.getD x.b.toNat 0).tmod 4).toNat (r.getD x.c.toNat 0))⟩
 else m
def stE(x:d9)(r:List Int):List (Int×Int):=
 if x.op=4 then [(2,x.b*4+(r.getD x.c.toNat 0).tmod 4)]
 else if x.op=5 then [(3,x.a*4+(r.getD x.b.toNat 0).tmod 4)]
 else if x.op=11 then [(4,r.getD x.a.toNat 0)]
 else []
def stP(x:d9)(r:List Int)(pc:Int):Int:=
 if x.op=8 then x.a
 else if x.op=9 then(if r.getD x.a.toNat 0=0 then x.b else pc+1)
 else if x.op=10 then(if(r.getD x.a.toNat 0+255).tmod 256=0 then pc+1 else x.b)
 else if x.op=13 then pc
 else pc+1
def aa2(c:d8)(s:y5):d9:=L6 c s.pc.toNat
def l0(c:d8)(s:y5):y5:=⟨stP (aa2 c s) s.regs s.pc,stR s.mem (aa2 c s) s.regs,stM s.mem (aa2 c s) s.regs⟩
def E2(c:d8)(s:y5):List (Int×Int):=(5,s.pc)::stE (aa2 c s) s.regs
def V6(c:d8)(s:y5):Bool:=decide ((aa2 c s).op=13)
def v9(c:d8)(s:y5):Nat->y5
 |0=>s
 |n+1=>l0 c (v9 c s n)
def J9(c:d8)(s:y5):Nat->List (Int×Int)
 |0=>[]
 |n+1=>J9 c s n++E2 c (v9 c s n)
def Z4(c:d8)(s:y5):Bool:=decide (0<=s.pc)&&(decide (s.pc<c.list.length)&&(decide (s.regs.length=14)&&(J3 s.regs&&L4 c.vars.length c.arrays.length s.mem)))
theorem ao3{c:d8}{s:y5}(h:Z4 c s=true):0<=s.pc/\s.pc<c.list.length/\s.regs.length=14/\J3 s.regs=true/\L4 c.vars.length c.arrays.length s.mem=true:=by
 unfold Z4 at h
 simpa[cD5]using h
theorem bx1{c:d8}{s:y5}(h1:0<=s.pc)(h2:s.pc<c.list.length)(h3:s.regs.length=14)(h4:J3 s.regs=true)(h5:L4 c.vars.length c.arrays.length s.mem=true):Z4 c s=true:=by
 unfold Z4
 simp[*]
theorem b98{l:List Int}(h:∀x∈l,inV x):J3 l=true:=by
 unfold J3
 rw[cE2]
 intro x hx
 have:=h x hx
 unfold inV at this
 simp[this]
theorem ad3{l:List Int}(h:J3 l=true){x:Int}(hx:inV x)(i:Nat):J3 (l.set i x)=true:=by
 refine b98 fun y hy=>?_
 rcases List.mem_or_eq_of_mem_set hy with h1|h1
 ·exact b99 h y h1
 exact h1▸hx
theorem ad4{l:List Int}(h:J3 l=true)(i:Nat):inV (l.getD i 0):=cs0 (b99 h) i
theorem cl0{x n:Int}(h:0<=x)(hn:0<n)(h2:n<=256):inV (x.tmod n):=by
 have:=Int.tmod_lt_of_pos x hn
 have:=Int.tmod_nonneg n h
 unfold inV;omega
theorem bX7(m:z6)(x:d9)(r:List Int):(stR m x r).length=r.length:=by
 unfold stR
 repeat' split
 all_goals simp
theorem bX6{c:d8}{m:z6}{x:d9}{r:List Int}(hx:C2 c x=true)(hm:L4 c.vars.length c.arrays.length m=true)(hr:J3 r=true):J3 (stR m x r)=true:=by
 obtain⟨f1,f2,f3,f4⟩:=ae9 hm
 unfold stR
 split
 ·rename_i e
  refine ad3 hr ?_ _
  unfold C2 at hx
  simp only[cD5,decide_eq_true_eq]at hx
  obtain⟨_,⟨⟨_,hb⟩,_⟩,_⟩:=hx
  rw[e]at hb
  simp[r8,H6,S8]at hb
  exact hb
 split
 ·exact ad3 hr (ad4 f3 _) _
 split
 ·exact ad3 hr (cs0 (cy8 f4 _) _) _
 split
 ·have a:=ad4 hr x.c.toNat
  have b:=ad4 hr x.d.toNat
  exact ad3 hr (bf0 a.1 a.2 b.1 b.2) _
 split
 ·refine ad3 hr ?_ _
  split<;>exact ad4 hr _
 split
 ·have a:=ad4 hr x.a.toNat
  exact ad3 hr (cl0 (by have:=a.1;omega) ak ak) _
 exact hr
theorem ci5{a:List Int}(h1:a.length=4)(h2:J3 a=true):X7 a=true:=by unfold X7;simp[h1,h2]
theorem br0{a:List Int}(h:X7 a=true):a.length=4/\J3 a=true:=by
 unfold X7 at h;simpa[cD5]using h
theorem bX9{nv na:Nat}{m:z6}{r:List Int}(x:d9)(hm:L4 nv na m=true)(hr:J3 r=true):L4 nv na (stM m x r)=true:=by
 obtain⟨f1,f2,f3,f4⟩:=ae9 hm
 have key:∀m':z6,m'.vals.length=nv->m'.arrs.length=na->J3 m'.vals=true->m'.arrs.all X7=true->L4 nv na m'=true:=by
  intro m' h1 h2 h3 h4
  unfold L4;simp[h1,h2,h3];simpa using h4
 unfold stM
 split
 ·exact key _ (by simp[f1]) f2 (ad3 f3 (ad4 hr _) _) f4
 split
 ·refine key _ f1 (by simp[f2]) f3 ?_
  rw[cE2]at f4 ⊢
  intro a ha
  rcases List.mem_or_eq_of_mem_set ha with h|h
  ·exact f4 a h
  subst h
  by_cases hl:x.a.toNat<m.arrs.length
  ·have:=br0 (f4 (m.arrs.getD x.a.toNat []) (by rw[cD7,cD8 hl];exact cF3 hl))
   exact ci5 (by simp only[cG4];exact this.1) (ad3 this.2 (ad4 hr _) _)
  rw[List.set_eq_of_length_le al]at ha
  exact f4 _ ha
 exact hm
theorem bd8{c:d8}{s:y5}(h0:0<=s.pc)(h1:s.pc<c.list.length):aa2 c s=c.list[s.pc.toNat]'al:=V4 al
theorem a43{c:d8}{s:y5}(hc:l5 c=true)(h0:0<=s.pc)(h1:s.pc<c.list.length):C2 c (aa2 c s)=true:=by
 rw[bd8 h0 h1];exact(v7 hc).2.2.2.1 _ al
theorem cp5{c:d8}{s:y5}(h0:0<=s.pc)(h1:s.pc<c.list.length):nx c s.pc=R5 (aa2 c s) s.pc:=by
 rw[bd8 h0 h1];exact bw6 al
theorem a95{x:d9}{r:List Int}{pc:Int}(h:x.op≠13):stP x r pc∈R5 x pc:=by
 unfold stP R5
 rw[if_neg h]
 by_cases h8:x.op=8
 ·simp[h8]
 rw[if_neg h8,if_neg h8]
 by_cases h9:x.op=9
 ·rw[if_pos h9,if_pos (.inl h9)];split<;>simp
 rw[if_neg h9]
 by_cases h10:x.op=10
 ·rw[if_pos h10,if_pos (.inr h10)];split<;>simp
 rw[if_neg h10,if_neg h,if_neg al];simp
theorem bX8{x:d9}{r:List Int}{pc:Int}(h:x.op=13):stP x r pc=pc:=by
 unfold stP
 rw[if_neg al,if_neg al,if_neg al,if_pos h]
theorem bu4{c:d8}{s:y5}(hc:l5 c=true)(h0:0<=s.pc)(h1:s.pc<c.list.length):(0<=(l0 c s).pc/\(l0 c s).pc<c.list.length)/\((l0 c s).pc=s.pc\/(l0 c s).pc∈nx c s.pc):=by
 by_cases h:(aa2 c s).op=13
 ·have:(l0 c s).pc=s.pc:=bX8 h
  rw[this];exact⟨⟨h0,h1⟩,.inl rfl⟩
 have hn:(l0 c s).pc∈nx c s.pc:=by rw[cp5 h0 h1];exact a95 h
 exact⟨bc8 hc h0 hn,.inr hn⟩
theorem bX5{c:d8}{s:y5}(hc:l5 c=true)(h:Z4 c s=true):Z4 c (l0 c s)=true:=by
 obtain⟨h1,h2,h3,h4,h5⟩:=ao3 h
 have hp:=(bu4 hc h1 h2).1
 exact bx1 hp.1 hp.2 ((bX7 _ _ _).trans h3) (bX6 (a43 hc h1 h2) h5 h4) (bX9 _ h5 h4)
theorem aM2{c:d8}{s:y5}(hc:l5 c=true)(h:Z4 c s=true):∀n,Z4 c (v9 c s n)=true
 |0=>h
 |n+1=>bX5 hc (aM2 hc h n)
theorem bY0(x:d9)(r:List Int):(stE x r).length<=1:=by
 unfold stE
 repeat' split
 all_goals simp
theorem aV2(c:d8)(s:y5):(E2 c s).length<=2:=by
 have:=bY0 (aa2 c s) s.regs
 unfold E2;simp;omega
theorem bb2(c:d8)(s:y5):∀n,(J9 c s n).length<=2*n
 |0=>by simp[J9]
 |n+1=>by
  have:=bb2 c s n
  have:=aV2 c (v9 c s n)
  rw[J9,cE0];omega
def n7(m:z6):y5:=⟨0,cD6 14 0,m⟩
theorem av8{c:d8}{m:z6}(hc:l5 c=true)(h:L4 c.vars.length c.arrays.length m=true):Z4 c (n7 m)=true:=by
 have hn:=(v7 hc).2.1
 exact bx1 (Int.le_refl _) (by show(0:Int)<_;omega) rfl (show J3 (cD6 14 0)=true by decide) h
structure aT4(c:d8)(m:z6)(n:Nat):Prop where
 lt:n<20000
 fin:V6 c (v9 c (n7 m) n)=true
 no:∀k,k<n->V6 c (v9 c (n7 m) k)=false
def cz2(c:d8)(m:z6)(n:Nat):z6:=(v9 c (n7 m) (n+1)).mem
def aw7(c:d8)(m:z6)(n:Nat):List (Int×Int):=J9 c (n7 m) (n+1)
theorem b01{c:d8}{m:z6}{n:Nat}(hn:n<20000)(h:V6 c (v9 c (n7 m) n)=true):∃k,k<=n/\aT4 c m k:=by
 induction n using Nat.strongRecOn with
 | _ n ih =>
  by_cases hk:∃k,k<n/\V6 c (v9 c (n7 m) k)=true
  ·obtain⟨k,h1,h2⟩:=hk
   obtain⟨j,h3,h4⟩:=ih k h1 al h2
   exact⟨j,al,h4⟩
  refine⟨n,cE1 _,hn,h,fun k h1=>?_⟩
  cases he:V6 c (v9 c (n7 m) k)with
  |false=>rfl
  |true=>exact absurd ⟨k,h1,he⟩ hk
theorem bb0{c:d8}{m:z6}{n k:Nat}(h:aT4 c m n)(g:aT4 c m k):n=k:=by
 rcases Nat.lt_trichotomy n k with h1|h1|h1
 ·have:=g.no n h1;rw[h.fin]at this;cases this
 ·exact h1
 have:=h.no k h1;rw[g.fin]at this;cases this
theorem b00(c:d8)(m:z6):(∃n,aT4 c m n)\/∀k,k<20000->V6 c (v9 c (n7 m) k)=false:=by
 by_cases h:∃k,k<20000/\V6 c (v9 c (n7 m) k)=true
 ·obtain⟨k,h1,h2⟩:=h
  obtain⟨j,_,h4⟩:=b01 h1 h2
  exact .inl ⟨j,h4⟩
 right
 intro k h1
 cases he:V6 c (v9 c (n7 m) k)with
 |false=>rfl
 |true=>exact absurd ⟨k,h1,he⟩ h
section
variable{c:d8}{s:y5}
theorem E9:l0 c s=⟨stP (c.list.getD s.pc.toNat cD4) s.regs s.pc,stR s.mem (c.list.getD s.pc.toNat cD4) s.regs,stM s.mem (c.list.getD s.pc.toNat cD4) s.regs⟩/\E2 c s=(5,s.pc)::stE (c.list.getD s.pc.toNat cD4) s.regs:=⟨rfl,rfl⟩
theorem cx3(h:(c.list.getD s.pc.toNat cD4).op=1):l0 c s=⟨s.pc+1,s.regs.set (c.list.getD s.pc.toNat cD4).a.toNat (c.list.getD s.pc.toNat cD4).b,s.mem⟩/\E2 c s=[(5,s.pc)]:=by
 rw[E9.1,E9.2];generalize (c.list.getD s.pc.toNat cD4)=x at*;simp[stP,stR,stM,stE,h]
theorem cx2(h:(c.list.getD s.pc.toNat cD4).op=2):l0 c s=⟨s.pc+1,s.regs.set (c.list.getD s.pc.toNat cD4).a.toNat (s.mem.vals.getD (c.list.getD s.pc.toNat cD4).b.toNat 0),s.mem⟩/\E2 c s=[(5,s.pc)]:=by
 rw[E9.1,E9.2];generalize (c.list.getD s.pc.toNat cD4)=x at*;simp[stP,stR,stM,stE,h]
theorem cx1(h:(c.list.getD s.pc.toNat cD4).op=3):l0 c s=⟨s.pc+1,s.regs,⟨s.mem.vals.set (c.list.getD s.pc.toNat cD4).a.toNat (s.regs.getD (c.list.getD s.pc.toNat cD4).b.toNat 0),s.mem.arrs⟩⟩/\E2 c s=[(5,s.pc)]:=by
 rw[E9.1,E9.2];generalize (c.list.getD s.pc.toNat cD4)=x at*;simp[stP,stR,stM,stE,h]
theorem cx0(h:(c.list.getD s.pc.toNat cD4).op=4):l0 c s=⟨s.pc+1,s.regs.set (c.list.getD s.pc.toNat cD4).a.toNat ((s.mem.arrs.getD (c.list.getD s.pc.toNat cD4).b.toNat []).getD ((s.regs.getD (c.list.getD s.pc.toNat cD4).c.toNat 0).tmod 4).toNat 0),s.mem⟩/\E2 c s=[(5,s.pc)]++[(2,(c.list.getD s.pc.toNat cD4).b*4+(s.regs.getD (c.list.getD s.pc.toNat cD4).c.toNat 0).tmod 4)]:=by
 rw[E9.1,E9.2];generalize (c.list.getD s.pc.toNat cD4)=x at*;simp[stP,stR,stM,stE,h]
theorem cw9(h:(c.list.getD s.pc.toNat cD4).op=5):l0 c s=⟨s.pc+1,s.regs,⟨s.mem.vals,s.mem.arrs.set (c.list.getD s.pc.toNat cD4).a.toNat ((s.mem.arrs.getD (c.list.getD s.pc.toNat cD4).a.toNat []).set ((s.regs.getD (c.list.getD s.pc.toNat cD4).b.toNat 0).tmod 4).toNat (s.regs.getD (c.list.getD s.pc.toNat cD4).c.toNat 0))⟩⟩/\E2 c s=[(5,s.pc)]++[(3,(c.list.getD s.pc.toNat cD4).a*4+(s.regs.getD (c.list.getD s.pc.toNat cD4).b.toNat 0).tmod 4)]:=by
 rw[E9.1,E9.2];generalize (c.list.getD s.pc.toNat cD4)=x at*;simp[stP,stR,stM,stE,h]
theorem cw8(h:(c.list.getD s.pc.toNat cD4).op=6):l0 c s=⟨s.pc+1,s.regs.set (c.list.getD s.pc.toNat cD4).a.toNat (N8 (c.list.getD s.pc.toNat cD4).b (s.regs.getD (c.list.getD s.pc.toNat cD4).c.toNat 0) (s.regs.getD (c.list.getD s.pc.toNat cD4).d.toNat 0)),s.mem⟩/\E2 c s=[(5,s.pc)]:=by
 rw[E9.1,E9.2];generalize (c.list.getD s.pc.toNat cD4)=x at*;simp[stP,stR,stM,stE,h]
theorem a68(h:(c.list.getD s.pc.toNat cD4).op=7)(h2:¬s.regs.getD (c.list.getD s.pc.toNat cD4).b.toNat 0=0):l0 c s=⟨s.pc+1,s.regs.set (c.list.getD s.pc.toNat cD4).a.toNat (s.regs.getD (c.list.getD s.pc.toNat cD4).c.toNat 0),s.mem⟩/\E2 c s=[(5,s.pc)]:=by
 rw[E9.1,E9.2];generalize (c.list.getD s.pc.toNat cD4)=x at*;simp only[stP,stR,stM,stE,h,h2];simp
theorem a69(h:(c.list.getD s.pc.toNat cD4).op=7)(h2:s.regs.getD (c.list.getD s.pc.toNat cD4).b.toNat 0=0):l0 c s=⟨s.pc+1,s.regs.set (c.list.getD s.pc.toNat cD4).a.toNat (s.regs.getD (c.list.getD s.pc.toNat cD4).d.toNat 0),s.mem⟩/\E2 c s=[(5,s.pc)]:=by
 rw[E9.1,E9.2];generalize (c.list.getD s.pc.toNat cD4)=x at*;simp only[stP,stR,stM,stE,h,h2];simp
theorem cw7(h:(c.list.getD s.pc.toNat cD4).op=8):l0 c s=⟨(c.list.getD s.pc.toNat cD4).a,s.regs,s.mem⟩/\E2 c s=[(5,s.pc)]:=by
 rw[E9.1,E9.2];generalize (c.list.getD s.pc.toNat cD4)=x at*;simp[stP,stR,stM,stE,h]
theorem a66(h:(c.list.getD s.pc.toNat cD4).op=9)(h2:s.regs.getD (c.list.getD s.pc.toNat cD4).a.toNat 0=0):l0 c s=⟨(c.list.getD s.pc.toNat cD4).b,s.regs,s.mem⟩/\E2 c s=[(5,s.pc)]:=by
 rw[E9.1,E9.2];generalize (c.list.getD s.pc.toNat cD4)=x at*;simp only[stP,stR,stM,stE,h,h2];simp
theorem a67(h:(c.list.getD s.pc.toNat cD4).op=9)(h2:¬s.regs.getD (c.list.getD s.pc.toNat cD4).a.toNat 0=0):l0 c s=⟨s.pc+1,s.regs,s.mem⟩/\E2 c s=[(5,s.pc)]:=by
 rw[E9.1,E9.2];generalize (c.list.getD s.pc.toNat cD4)=x at*;simp only[stP,stR,stM,stE,h,h2];simp
theorem aI2(h:(c.list.getD s.pc.toNat cD4).op=10)(h2:¬(s.regs.getD (c.list.getD s.pc.toNat cD4).a.toNat 0+255).tmod 256=0):l0 c s=⟨(c.list.getD s.pc.toNat cD4).b,s.regs.set (c.list.getD s.pc.toNat cD4).a.toNat ((s.regs.getD (c.list.getD s.pc.toNat cD4).a.toNat 0+255).tmod 256),s.mem⟩/\E2 c s=[(5,s.pc)]:=by
 rw[E9.1,E9.2];generalize (c.list.getD s.pc.toNat cD4)=x at*;simp only[stP,stR,stM,stE,h,h2];simp
theorem aI3(h:(c.list.getD s.pc.toNat cD4).op=10)(h2:(s.regs.getD (c.list.getD s.pc.toNat cD4).a.toNat 0+255).tmod 256=0):l0 c s=⟨s.pc+1,s.regs.set (c.list.getD s.pc.toNat cD4).a.toNat ((s.regs.getD (c.list.getD s.pc.toNat cD4).a.toNat 0+255).tmod 256),s.mem⟩/\E2 c s=[(5,s.pc)]:=by
 rw[E9.1,E9.2];generalize (c.list.getD s.pc.toNat cD4)=x at*;simp only[stP,stR,stM,stE,h,h2];simp
theorem cj1(h:(c.list.getD s.pc.toNat cD4).op=11):l0 c s=⟨s.pc+1,s.regs,s.mem⟩/\E2 c s=[(5,s.pc)]++[(4,s.regs.getD (c.list.getD s.pc.toNat cD4).a.toNat 0)]:=by
 rw[E9.1,E9.2];generalize (c.list.getD s.pc.toNat cD4)=x at*;simp[stP,stR,stM,stE,h]
theorem cj0(h:(c.list.getD s.pc.toNat cD4).op=12):l0 c s=⟨s.pc+1,s.regs,s.mem⟩/\E2 c s=[(5,s.pc)]:=by
 rw[E9.1,E9.2];generalize (c.list.getD s.pc.toNat cD4)=x at*;simp[stP,stR,stM,stE,h]
theorem ci9(h:(c.list.getD s.pc.toNat cD4).op=13):l0 c s=⟨s.pc,s.regs,s.mem⟩/\E2 c s=[(5,s.pc)]:=by
 rw[E9.1,E9.2];generalize (c.list.getD s.pc.toNat cD4)=x at*;simp[stP,stR,stM,stE,h]
theorem b56(hc:l5 c=true)(h:Z4 c s=true):C2 c (c.list.getD s.pc.toNat cD4)=true:=by
 obtain⟨h1,h2,-⟩:=ao3 h
 exact a43 hc h1 h2
theorem ci7(hc:l5 c=true)(h:Z4 c s=true):1<=(c.list.getD s.pc.toNat cD4).op/\(c.list.getD s.pc.toNat cD4).op<=13:=by
 have hx:=b56 hc h
 unfold C2 at hx
 simp only[cD5,decide_eq_true_eq]at hx
 exact hx.1
theorem ci8(hc:l5 c=true):c.arrays.length<=2/\c.vars.length<=12:=by
 obtain⟨h1,-⟩:=v7 hc
 unfold F9 at h1
 simp only[cD5,decide_eq_true_eq]at h1
 omega
theorem b89{l:List Int}{i:Nat}{v:Int}(h:i<l.length):(l.set i v).getD i 0=v:=by
 rw[cD7,cH9,if_pos rfl,if_pos h];rfl
end
theorem bF2(k x y:Int)(r0:inV x)(r1:inV y):j8.ok Tryz.prog (P1 170 [iA k,iA x,iA y] [] (iA (N8 k x y))):=
 at2 fun φ w ρ h=>(a44 k x y w r0.1 r0.2 r1.1 r1.2).mono fun e w' ⟨h1,h2⟩=>⟨h1,h2▸Below.refl _ _⟩
theorem tmV{x:Int}(h:inV x):0<=x.tmod 4/\x.tmod 4<4:=by
 have h1:0<=x/\x<=255:=h
 rw[Int.tmod_eq_emod_of_nonneg al];omega
theorem aY0(x y:Int)(r0:0<=x/\x<=1000)(r1:inV y):j8.ok Tryz.prog (P1 169 [iA x,iA y] [] (iA (x*4+y.tmod 4))):=by
 refine D9 10 Tryz.func169 [] [(0,iA x),(1,iA y)] fun G=>?_;have htm:=tmV r1;have hyy:0<=y/\y<=255:=r1;refine wp_seq (l6 G f8 [(4,iA 0)] fun G=>b6 (wp_seq (H0 G f8 [(4,iA (x*4+y.tmod 4))] [wO (x*4),(4:Int)≠0,wO (x*4+y.tmod (4:Int))] ⟨oW al,al,(oW al),cF1⟩ fun G=>b6 (wp_ret ?_))));exact G7 G []
section
variable{nv na d:Nat}{m:z6}{e:c7}
end
section
variable{m:z6}{e:c7}
theorem co1{nv na:Nat}(hm:L4 nv na m=true){i:Int}(h0:0<=i)(h1:i<na):(m.arrs.getD i.toNat []).length=4:=by
 obtain⟨f1,f2,f3,f4⟩:=ae9 hm
 have hi:i.toNat<m.arrs.length:=al
 have:=cE2.1 f4 (m.arrs.getD i.toNat []) (by rw[m6 hi];exact cF3 hi)
 unfold X7 at this
 simp only[cD5,decide_eq_true_eq]at this
 exact this.1
end
abbrev kcS(c:d8):List It:=[dI c.vars,dI c.arrays,.dat (.instrs c.list)]
abbrev stI(s:y5):List It:=[.box [iA s.pc,.ref 1,.ref 2,.tref 3],.row 3 (.ints s.regs),.row 3 (.ints s.mem.vals),.tree (.rows s.mem.arrs)]
abbrev a81(c:d8)(s:y5):=s.regs.set (c.list.getD s.pc.toNat cD4).a.toNat ((s.regs.getD (c.list.getD s.pc.toNat cD4).a.toNat 0+255).tmod 256)
abbrev av0(c:d8)(s:y5):=s.regs.getD (c.list.getD s.pc.toNat cD4).c.toNat 0
abbrev aJ7(c:d8)(s:y5):=s.regs.getD (c.list.getD s.pc.toNat cD4).b.toNat 0
abbrev F0(c:d8)(s:y5)(E:List (Int×Int)):List It:=[.box [iA (l0 c s).pc,.ref 1,.ref 2,.tref 3],.row 3 (D.ints (l0 c s).regs),.row 3 (D.ints (l0 c s).mem.vals),.tree (D.rows (l0 c s).mem.arrs),dI c.vars,dI c.arrays,dN c.list,.row 39 (D.events E)]
abbrev a80(c:d8)(s:y5):It:=.box [iA (c.list.getD s.pc.toNat cD4).op,iA (c.list.getD s.pc.toNat cD4).a,iA (c.list.getD s.pc.toNat cD4).b,iA (c.list.getD s.pc.toNat cD4).c,iA (c.list.getD s.pc.toNat cD4).d]
abbrev N4(s:y5):It:=.row 39 (D.events ([(5,s.pc)]++[]))
abbrev U2(s:y5):It:=.box [iA s.pc,.ref 1,.ref 2,.tref 3]
abbrev ai7(s:y5):It:=.box [iA (s.pc+1),.ref 1,.ref 2,.tref 3]
abbrev ai6(c:d8)(s:y5):AV:=iA (c.list.getD s.pc.toNat cD4).op
abbrev b57(c:d8)(s:y5):It:=.row 3 (D.ints (s.regs.set (c.list.getD s.pc.toNat cD4).a.toNat (N8 (c.list.getD s.pc.toNat cD4).b (av0 c s) (s.regs.getD (c.list.getD s.pc.toNat cD4).d.toNat 0))))
abbrev F5(c:d8)(s:y5)(r0:List It):List It:=.row 3 (D.ints s.mem.vals)::.tree (D.rows s.mem.arrs)::dI c.vars::dI c.arrays::dN c.list::r0
abbrev ac9(s:y5)(r0:List (Nat×AV)):List (Nat×AV):=(0,.ptr 0 0)::(4,.v (.slice none 0 0))::(5,.ptr 7 0)::(6,.ref 1)::(7,.ref 8)::(8,iA (s.pc+1))::r0
abbrev I2(r0:List (Nat×AV)):List (Nat×AV):=(4,.v (.slice none 0 0))::(7,.ref 7)::r0
theorem cb1(c : d8)(s : y5)(hc : l5 c = true)(hs : Z4 c s = true)(E : List (Int × Int))(hE : E2 c s = E) : j8.ok Tryz.prog ⟨125, [.ptr 0 0, pA 4], stI s ++ kcS c, stI (l0 c s) ++ kcS c ++ [.row 39 (.events E)], .ref 7⟩ := by
  refine D9 240 Tryz.func125 (U2 s::.row 3 (D.ints s.regs)::(F5 c s [])) [(0,.ptr 0 0),(1,pA 4)] fun G=>?_;obtain⟨m1,m2,m3,m4,m5⟩:=ao3 hs;have hop:1<=(c.list.getD s.pc.toNat cD4).op/\(c.list.getD s.pc.toNat cD4).op<=13:=ci7 hc hs;have hn:=(v7 hc).2.2.1;obtain⟨f1,f11,f2,f3,f4,f5,f6,f7,f9,f10⟩:=ac0 (x:=c.list.getD s.pc.toNat cD4) (b56 hc hs);obtain⟨w1,w2,w3,w4⟩:=ae9 m5;have hna:=ci8 hc
  have hrv:=fun i=>ad4 m4 i
  refine wp_seq (j7 G f8 (rg 8) (U2 s::.row 3 (D.ints s.regs)::(F5 c s [.box (pL 4)])) [(0,.ptr 0 0),(3,.ptr 7 0),(4,.v (.slice none 0 0))] fun G=>b6 (wp_seq (K7 G f8 [0,1,0,4,12,28,63,127,0,256,768,1792,0,4351,16383] [0,1,2,3,4,5,6,104] (U2 s::.row 3 (D.ints s.regs)::(F5 c s [a80 c s])) [(0,.ptr 0 0),(4,.v (.slice none 0 0)),(5,.ptr 7 0),(6,.ref 1)] (iX s.pc s.pc.toNat c.list.length []) (iK al cF1) fun G=>b6 (wp_seq (j7 G f8 [0,1,2,3,4,5,6,7,48] (U2 s::.row 3 (D.ints s.regs)::(F5 c s [a80 c s,N4 s])) [(0,.ptr 0 0),(4,.v (.slice none 0 0)),(5,.ptr 7 0),(6,.ref 1),(7,.ref 8)] fun G=>b6 (wp_seq (H0 G f8 [(8,iA (s.pc+1))] [wO (s.pc+1)] (o1 al) fun G=>b6 (wp_seq (wp_seq (l6 G f8 [(35,ai6 c s)] fun G=>b6 (wp_block (wp_seq (C6 G f8 (ac9 s [(35,ai6 c s),(36,bA ((c.list.getD s.pc.toNat cD4).op==1))]) fun G=>b6 ?_)))))))))))));cases h0:((c.list.getD s.pc.toNat cD4).op==1)
  ·
   have q0:=ne_of_beq_false h0;refine rF G _ h0 (wp_seq (C6 G f8 (ac9 s [(35,ai6 c s),(44,bA ((c.list.getD s.pc.toNat cD4).op==2))]) fun G=>b6 ?_));cases h1:((c.list.getD s.pc.toNat cD4).op==2)
   ·
    have q1:=ne_of_beq_false h1;refine rF G _ h1 (wp_seq (C6 G f8 (ac9 s [(35,ai6 c s),(59,bA ((c.list.getD s.pc.toNat cD4).op==3))]) fun G=>b6 ?_));cases h2:((c.list.getD s.pc.toNat cD4).op==3)
    ·
     have q2:=ne_of_beq_false h2;refine rF G _ h2 (wp_seq (C6 G f8 (ac9 s [(35,ai6 c s),(74,bA ((c.list.getD s.pc.toNat cD4).op==4))]) fun G=>b6 ?_));cases h3:((c.list.getD s.pc.toNat cD4).op==4)
     ·
      have q3:=ne_of_beq_false h3;refine rF G _ h3 (wp_seq (C6 G f8 (ac9 s [(35,ai6 c s),(106,bA ((c.list.getD s.pc.toNat cD4).op==5))]) fun G=>b6 ?_));cases h4:((c.list.getD s.pc.toNat cD4).op==5)
      ·
       have q4:=ne_of_beq_false h4;refine rF G _ h4 (wp_seq (C6 G f8 (ac9 s [(35,ai6 c s),(138,bA ((c.list.getD s.pc.toNat cD4).op==6))]) fun G=>b6 ?_));cases h5:((c.list.getD s.pc.toNat cD4).op==6)
       ·
        have q5:=ne_of_beq_false h5;refine rF G _ h5 (wp_seq (C6 G f8 (ac9 s [(35,ai6 c s),(157,bA ((c.list.getD s.pc.toNat cD4).op==7))]) fun G=>b6 ?_));cases h6:((c.list.getD s.pc.toNat cD4).op==7)
        ·
         have q6:=ne_of_beq_false h6;refine rF G _ h6 (wp_seq (C6 G f8 (ac9 s [(35,ai6 c s),(183,bA ((c.list.getD s.pc.toNat cD4).op==8))]) fun G=>b6 ?_));cases h7:((c.list.getD s.pc.toNat cD4).op==8)
         ·
          have q7:=ne_of_beq_false h7;refine rF G _ h7 (wp_seq (C6 G f8 (ac9 s [(35,ai6 c s),(187,bA ((c.list.getD s.pc.toNat cD4).op==9))]) fun G=>b6 ?_));cases h8:((c.list.getD s.pc.toNat cD4).op==9)
          ·
           have q8:=ne_of_beq_false h8;refine rF G _ h8 (wp_seq (C6 G f8 (ac9 s [(35,ai6 c s),(197,bA ((c.list.getD s.pc.toNat cD4).op==10))]) fun G=>b6 ?_));cases h9:((c.list.getD s.pc.toNat cD4).op==10)
           ·
            have q9:=ne_of_beq_false h9;refine rF G _ h9 (wp_seq (C6 G f8 (ac9 s [(35,ai6 c s),(218,bA ((c.list.getD s.pc.toNat cD4).op==11))]) fun G=>b6 ?_));cases h10:((c.list.getD s.pc.toNat cD4).op==11)
            ·
             have q10:=ne_of_beq_false h10;refine rF G _ h10 (wp_seq (j7 G f8 [0,1,2,3,4,5,6,8] (U2 s::.row 3 (D.ints s.regs)::(F5 c s [N4 s])) ((0,.ptr 0 0)::(I2 [(8,iA (s.pc+1)),(229,bA ((c.list.getD s.pc.toNat cD4).op==13))])) fun G=>b6 ?_));cases h11:((c.list.getD s.pc.toNat cD4).op==13)
             · have q11:=ne_of_beq_false h11;have hst:=cj0 (c:=c) (s:=s) (show(c.list.getD s.pc.toNat cD4).op=12 by omega);refine rF G _ h11 (wp_skip (m8 (b6 (wp_seq (j7 G f8 (rg 8) (ai7 s::.row 3 (D.ints s.regs)::(F5 c s [N4 s])) (I2 []) fun G=>b6 (wp_seq (l6 G f8 [(4,.ref 7)] fun G=>b6 (wp_ret ?_))))))));exact G7 G (rg 8) (by show _=mR (rg 8) (F0 c s E);unfold F0;have e1:((l0 c s).pc:Int)=(s.pc+1):=(by rw[hst.1]);have e2:((l0 c s).regs:List Int)=(s.regs):=(by rw[hst.1]);have e3:((l0 c s).mem.vals:List Int)=(s.mem.vals):=(by rw[hst.1]);have e4:((l0 c s).mem.arrs:List (List Int))=(s.mem.arrs):=(by rw[hst.1]);rw[e1,e2,e3,e4, <-hE,hst.2]<;>rfl)
             have q11:=eq_of_beq h11;have hst:=ci9 (c:=c) (s:=s) (show(c.list.getD s.pc.toNat cD4).op=13 by omega);refine rT G _ h11 (l6 G f8 [(8,iA s.pc)] fun G=>m8 (b6 (wp_seq (l6 G f8 [] fun G=>b6 (wp_seq (l6 G f8 [(4,.ref 7)] fun G=>b6 (wp_ret ?_)))))));exact G7 G (rg 8) (by show _=mR (rg 8) (F0 c s E);unfold F0;have e1:((l0 c s).pc:Int)=(s.pc):=(by rw[hst.1]);have e2:((l0 c s).regs:List Int)=(s.regs):=(by rw[hst.1]);have e3:((l0 c s).mem.vals:List Int)=(s.mem.vals):=(by rw[hst.1]);have e4:((l0 c s).mem.arrs:List (List Int))=(s.mem.arrs):=(by rw[hst.1]);rw[e1,e2,e3,e4, <-hE,hst.2]<;>rfl)
            have q10:=eq_of_beq h10;have hst:=cj1 (c:=c) (s:=s) (show(c.list.getD s.pc.toNat cD4).op=11 by omega);have hfi:=f11 al;refine rT G _ h10 (R9 G f8 [0,1,2,3,4,5,6,73] (U2 s::.row 3 (D.ints s.regs)::(F5 c s [.row 39 (D.events ([(5,s.pc)]++[]++([(4,s.regs.getD (c.list.getD s.pc.toNat cD4).a.toNat 0)]++[])))])) ((0,.ptr 0 0)::(I2 [(8,iA (s.pc+1))])) (iX ((c.list.getD s.pc.toNat cD4).a) ((c.list.getD s.pc.toNat cD4).a.toNat) s.regs.length ((([((5:Int),s.pc)]++[]).length+([((4:Int),s.regs.getD (c.list.getD s.pc.toNat cD4).a.toNat (0:Int))]++[]).length<=(9223372036854775807:Nat))::(((([((5:Int),s.pc)]++[]).length+([((4:Int),s.regs.getD (c.list.getD s.pc.toNat cD4).a.toNat (0:Int))]++[]).length)*(16:Nat)<=(140737488355328:Nat))::[]))) (iK al ⟨(by simp[hc,hs,m4,m5,w3,w4,h0,h1,h2,h3,h4,h5,h6,h7,h8,h9,h10]),⟨(by simp[hc,hs,m4,m5,w3,w4,h0,h1,h2,h3,h4,h5,h6,h7,h8,h9,h10]),cF1⟩⟩) fun G=>m8 (b6 (wp_seq (j7 G f8 (rg 8) (ai7 s::.row 3 (D.ints s.regs)::(F5 c s [.row 39 (D.events ([(5,s.pc)]++[]++([(4,s.regs.getD (c.list.getD s.pc.toNat cD4).a.toNat 0)]++[])))])) (I2 []) fun G=>b6 (wp_seq (l6 G f8 [(4,.ref 7)] fun G=>b6 (wp_ret ?_)))))));exact G7 G (rg 8) (by show _=mR (rg 8) (F0 c s E);unfold F0;have e1:((l0 c s).pc:Int)=(s.pc+1):=(by rw[hst.1]);have e2:((l0 c s).regs:List Int)=(s.regs):=(by rw[hst.1]);have e3:((l0 c s).mem.vals:List Int)=(s.mem.vals):=(by rw[hst.1]);have e4:((l0 c s).mem.arrs:List (List Int))=(s.mem.arrs):=(by rw[hst.1]);rw[e1,e2,e3,e4, <-hE,hst.2]<;>rfl)
           have q9:=eq_of_beq h9;have hfi:=f10 al;have hv10:0<=s.regs.getD (c.list.getD s.pc.toNat cD4).a.toNat 0/\s.regs.getD (c.list.getD s.pc.toNat cD4).a.toNat 0<=255:=hrv _;have hgs:=b89 (l:=s.regs) (i:=(c.list.getD s.pc.toNat cD4).a.toNat) (v:=(s.regs.getD (c.list.getD s.pc.toNat cD4).a.toNat 0+255).tmod 256) al;refine rT G _ h9 (wp_seq (K7 G f8 [0,0,2,0,0,16,56,120,248,504,1023,2047] (rg 9) (U2 s::.row 3 (D.ints (a81 c s))::(F5 c s [a80 c s,N4 s])) (ac9 s []) (iX ((c.list.getD s.pc.toNat cD4).a) ((c.list.getD s.pc.toNat cD4).a.toNat) s.regs.length ((wO (s.regs.getD (c.list.getD s.pc.toNat cD4).a.toNat (0:Int)+255))::(((256:Int)≠0)::(iX ((c.list.getD s.pc.toNat cD4).a) ((c.list.getD s.pc.toNat cD4).a.toNat) s.regs.length [])))) (iK al ⟨oW al,⟨al,(iK al cF1)⟩⟩) fun G=>b6 (wp_seq (H0 G f8 [(215,bA ((a81 c s).getD (c.list.getD s.pc.toNat cD4).a.toNat 0 !=0))] (iX ((c.list.getD s.pc.toNat cD4).a) ((c.list.getD s.pc.toNat cD4).a.toNat) ((s.regs.set (c.list.getD s.pc.toNat cD4).a.toNat ((s.regs.getD (c.list.getD s.pc.toNat cD4).a.toNat (0:Int)+255).tmod (256:Int))).length) []) (iK (by rw[cG4];omega) cF1) fun G=>b6 (rcN (u:=((s.regs.set (c.list.getD s.pc.toNat cD4).a.toNat ((s.regs.getD (c.list.getD s.pc.toNat cD4).a.toNat (0:Int)+255).tmod (256:Int))).getD (c.list.getD s.pc.toNat cD4).a.toNat (0:Int))) (v:=(0:Int)) G (fun h12 q12=>?_) fun h12 q12=>?_)))))
           · refine wp_skip (m8 (b6 (wp_seq (j7 G f8 [0,1,2,3,4,5,6,8] (ai7 s::.row 3 (D.ints (a81 c s))::(F5 c s [N4 s])) (I2 []) fun G=>b6 (wp_seq (l6 G f8 [(4,.ref 7)] fun G=>b6 (wp_ret ?_)))))));exact G7 G (rg 8) (by show _=mR (rg 8) (F0 c s E);unfold F0;have e1:((l0 c s).pc:Int)=(s.pc+1):=(by rw[(aI3 al al).1]);have e2:((l0 c s).regs:List Int)=(s.regs.set (c.list.getD s.pc.toNat cD4).a.toNat ((s.regs.getD (c.list.getD s.pc.toNat cD4).a.toNat 0+255).tmod 256)):=(by rw[(aI3 al al).1]);have e3:((l0 c s).mem.vals:List Int)=(s.mem.vals):=(by rw[(aI3 al al).1]);have e4:((l0 c s).mem.arrs:List (List Int))=(s.mem.arrs):=(by rw[(aI3 al al).1]);rw[e1,e2,e3,e4, <-hE,(aI3 al al).2]<;>rfl)
           refine j7 G f8 [0,1,2,3,4,5,6,8] (U2 s::.row 3 (D.ints (a81 c s))::(F5 c s [N4 s])) ((0,.ptr 0 0)::(I2 [(8,iA (c.list.getD s.pc.toNat cD4).b)])) fun G=>m8 (b6 (wp_seq (j7 G f8 (rg 8) (.box [iA (c.list.getD s.pc.toNat cD4).b,.ref 1,.ref 2,.tref 3]::.row 3 (D.ints (a81 c s))::(F5 c s [N4 s])) (I2 []) fun G=>b6 (wp_seq (l6 G f8 [(4,.ref 7)] fun G=>b6 (wp_ret ?_))))));exact G7 G (rg 8) (by show _=mR (rg 8) (F0 c s E);unfold F0;have e1:((l0 c s).pc:Int)=((c.list.getD s.pc.toNat cD4).b):=(by rw[(aI2 al al).1]);have e2:((l0 c s).regs:List Int)=(s.regs.set (c.list.getD s.pc.toNat cD4).a.toNat ((s.regs.getD (c.list.getD s.pc.toNat cD4).a.toNat 0+255).tmod 256)):=(by rw[(aI2 al al).1]);have e3:((l0 c s).mem.vals:List Int)=(s.mem.vals):=(by rw[(aI2 al al).1]);have e4:((l0 c s).mem.arrs:List (List Int))=(s.mem.arrs):=(by rw[(aI2 al al).1]);rw[e1,e2,e3,e4, <-hE,(aI2 al al).2]<;>rfl)
          have q8:=eq_of_beq h8;have hfi:=f9 al;refine rT G _ h8 (wp_seq (H0 G f8 [(194,bA (s.regs.getD (c.list.getD s.pc.toNat cD4).a.toNat 0==0))] (iX ((c.list.getD s.pc.toNat cD4).a) ((c.list.getD s.pc.toNat cD4).a.toNat) s.regs.length []) (iK al cF1) fun G=>b6 (V3 G (fun h13 q13=>?_) fun h13 q13=>?_)))
          · refine wp_skip (m8 (b6 (wp_seq (j7 G f8 [0,1,2,3,4,5,6,8] (ai7 s::.row 3 (D.ints s.regs)::(F5 c s [N4 s])) (I2 []) fun G=>b6 (wp_seq (l6 G f8 [(4,.ref 7)] fun G=>b6 (wp_ret ?_)))))));exact G7 G (rg 8) (by show _=mR (rg 8) (F0 c s E);unfold F0;have e1:((l0 c s).pc:Int)=(s.pc+1):=(by rw[(a67 al al).1]);have e2:((l0 c s).regs:List Int)=(s.regs):=(by rw[(a67 al al).1]);have e3:((l0 c s).mem.vals:List Int)=(s.mem.vals):=(by rw[(a67 al al).1]);have e4:((l0 c s).mem.arrs:List (List Int))=(s.mem.arrs):=(by rw[(a67 al al).1]);rw[e1,e2,e3,e4, <-hE,(a67 al al).2]<;>rfl)
          refine j7 G f8 [0,1,2,3,4,5,6,8] (U2 s::.row 3 (D.ints s.regs)::(F5 c s [N4 s])) ((0,.ptr 0 0)::(I2 [(8,iA (c.list.getD s.pc.toNat cD4).b)])) fun G=>m8 (b6 (wp_seq (j7 G f8 (rg 8) (.box [iA (c.list.getD s.pc.toNat cD4).b,.ref 1,.ref 2,.tref 3]::.row 3 (D.ints s.regs)::(F5 c s [N4 s])) (I2 []) fun G=>b6 (wp_seq (l6 G f8 [(4,.ref 7)] fun G=>b6 (wp_ret ?_))))));exact G7 G (rg 8) (by show _=mR (rg 8) (F0 c s E);unfold F0;have e1:((l0 c s).pc:Int)=((c.list.getD s.pc.toNat cD4).b):=(by rw[(a66 al al).1]);have e2:((l0 c s).regs:List Int)=(s.regs):=(by rw[(a66 al al).1]);have e3:((l0 c s).mem.vals:List Int)=(s.mem.vals):=(by rw[(a66 al al).1]);have e4:((l0 c s).mem.arrs:List (List Int))=(s.mem.arrs):=(by rw[(a66 al al).1]);rw[e1,e2,e3,e4, <-hE,(a66 al al).2]<;>rfl)
         have q7:=eq_of_beq h7;have hst:=cw7 (c:=c) (s:=s) (show(c.list.getD s.pc.toNat cD4).op=8 by omega);refine rT G _ h7 (j7 G f8 [0,1,2,3,4,5,6,8] (U2 s::.row 3 (D.ints s.regs)::(F5 c s [N4 s])) ((0,.ptr 0 0)::(I2 [(8,iA (c.list.getD s.pc.toNat cD4).a)])) fun G=>m8 (b6 (wp_seq (j7 G f8 (rg 8) (.box [iA (c.list.getD s.pc.toNat cD4).a,.ref 1,.ref 2,.tref 3]::.row 3 (D.ints s.regs)::(F5 c s [N4 s])) (I2 []) fun G=>b6 (wp_seq (l6 G f8 [(4,.ref 7)] fun G=>b6 (wp_ret ?_)))))));exact G7 G (rg 8) (by show _=mR (rg 8) (F0 c s E);unfold F0;have e1:((l0 c s).pc:Int)=((c.list.getD s.pc.toNat cD4).a):=(by rw[hst.1]);have e2:((l0 c s).regs:List Int)=(s.regs):=(by rw[hst.1]);have e3:((l0 c s).mem.vals:List Int)=(s.mem.vals):=(by rw[hst.1]);have e4:((l0 c s).mem.arrs:List (List Int))=(s.mem.arrs):=(by rw[hst.1]);rw[e1,e2,e3,e4, <-hE,hst.2]<;>rfl)
        have q6:=eq_of_beq h6;have hfi:=f7 al;refine rT G _ h6 (wp_seq (H0 G f8 [(164,bA (s.regs.getD (c.list.getD s.pc.toNat cD4).b.toNat 0 !=0))] (iX ((c.list.getD s.pc.toNat cD4).b) ((c.list.getD s.pc.toNat cD4).b.toNat) s.regs.length []) (iK al cF1) fun G=>b6 (rcN G (fun h14 q14=>?_) fun h14 q14=>?_)))
        · refine K7 G f8 [0,0,2,0,0,16,56,120,255,511] [0,1,2,3,4,5,6,8] (U2 s::.row 3 (D.ints (s.regs.set (c.list.getD s.pc.toNat cD4).a.toNat (s.regs.getD (c.list.getD s.pc.toNat cD4).d.toNat 0)))::(F5 c s [N4 s])) ((0,.ptr 0 0)::(I2 [(8,iA (s.pc+1))])) (iX ((c.list.getD s.pc.toNat cD4).d) ((c.list.getD s.pc.toNat cD4).d.toNat) s.regs.length (iX ((c.list.getD s.pc.toNat cD4).a) ((c.list.getD s.pc.toNat cD4).a.toNat) s.regs.length [])) (iK al (iK al cF1)) fun G=>m8 (b6 (wp_seq (j7 G f8 (rg 8) (ai7 s::.row 3 (D.ints (s.regs.set (c.list.getD s.pc.toNat cD4).a.toNat (s.regs.getD (c.list.getD s.pc.toNat cD4).d.toNat 0)))::(F5 c s [N4 s])) (I2 []) fun G=>b6 (wp_seq (l6 G f8 [(4,.ref 7)] fun G=>b6 (wp_ret ?_))))));exact G7 G (rg 8) (by show _=mR (rg 8) (F0 c s E);unfold F0;have e1:((l0 c s).pc:Int)=(s.pc+1):=(by rw[(a69 al al).1]);have e2:((l0 c s).regs:List Int)=(s.regs.set (c.list.getD s.pc.toNat cD4).a.toNat (s.regs.getD (c.list.getD s.pc.toNat cD4).d.toNat 0)):=(by rw[(a69 al al).1]);have e3:((l0 c s).mem.vals:List Int)=(s.mem.vals):=(by rw[(a69 al al).1]);have e4:((l0 c s).mem.arrs:List (List Int))=(s.mem.arrs):=(by rw[(a69 al al).1]);rw[e1,e2,e3,e4, <-hE,(a69 al al).2]<;>rfl)
        refine K7 G f8 [0,0,2,0,0,16,56,120,255,511] [0,1,2,3,4,5,6,8] (U2 s::.row 3 (D.ints (s.regs.set (c.list.getD s.pc.toNat cD4).a.toNat (av0 c s)))::(F5 c s [N4 s])) ((0,.ptr 0 0)::(I2 [(8,iA (s.pc+1))])) (iX ((c.list.getD s.pc.toNat cD4).c) ((c.list.getD s.pc.toNat cD4).c.toNat) s.regs.length (iX ((c.list.getD s.pc.toNat cD4).a) ((c.list.getD s.pc.toNat cD4).a.toNat) s.regs.length [])) (iK al (iK al cF1)) fun G=>m8 (b6 (wp_seq (j7 G f8 (rg 8) (ai7 s::.row 3 (D.ints (s.regs.set (c.list.getD s.pc.toNat cD4).a.toNat (av0 c s)))::(F5 c s [N4 s])) (I2 []) fun G=>b6 (wp_seq (l6 G f8 [(4,.ref 7)] fun G=>b6 (wp_ret ?_))))));exact G7 G (rg 8) (by show _=mR (rg 8) (F0 c s E);unfold F0;have e1:((l0 c s).pc:Int)=(s.pc+1):=(by rw[(a68 al al).1]);have e2:((l0 c s).regs:List Int)=(s.regs.set (c.list.getD s.pc.toNat cD4).a.toNat (s.regs.getD (c.list.getD s.pc.toNat cD4).c.toNat 0)):=(by rw[(a68 al al).1]);have e3:((l0 c s).mem.vals:List Int)=(s.mem.vals):=(by rw[(a68 al al).1]);have e4:((l0 c s).mem.arrs:List (List Int))=(s.mem.arrs):=(by rw[(a68 al al).1]);rw[e1,e2,e3,e4, <-hE,(a68 al al).2]<;>rfl)
       have q5:=eq_of_beq h5;have hst:=cw8 (c:=c) (s:=s) (show(c.list.getD s.pc.toNat cD4).op=6 by omega);have hfi:=f6 al;refine rT G _ h5 (K7 G (x6 15 [] (bF2 ((c.list.getD s.pc.toNat cD4).b) (s.regs.getD (c.list.getD s.pc.toNat cD4).c.toNat 0) (s.regs.getD (c.list.getD s.pc.toNat cD4).d.toNat 0) (hrv _) (hrv _))) [0,0,2,0,8,0,0,64,224,480,0,0,2048,7168,15360,32760,65535,131071] [0,1,2,3,4,5,6,8] (U2 s::b57 c s::(F5 c s [N4 s])) ((0,.ptr 0 0)::(I2 [(8,iA (s.pc+1))])) (iX ((c.list.getD s.pc.toNat cD4).c) ((c.list.getD s.pc.toNat cD4).c.toNat) s.regs.length (iX ((c.list.getD s.pc.toNat cD4).d) ((c.list.getD s.pc.toNat cD4).d.toNat) s.regs.length (iX ((c.list.getD s.pc.toNat cD4).a) ((c.list.getD s.pc.toNat cD4).a.toNat) s.regs.length []))) (iK al (iK al (iK al cF1))) fun G=>m8 (b6 (wp_seq (j7 G f8 (rg 8) (ai7 s::b57 c s::(F5 c s [N4 s])) (I2 []) fun G=>b6 (wp_seq (l6 G f8 [(4,.ref 7)] fun G=>b6 (wp_ret ?_)))))));exact G7 G (rg 8) (by show _=mR (rg 8) (F0 c s E);unfold F0;have e1:((l0 c s).pc:Int)=(s.pc+1):=(by rw[hst.1]);have e2:((l0 c s).regs:List Int)=(s.regs.set (c.list.getD s.pc.toNat cD4).a.toNat (N8 (c.list.getD s.pc.toNat cD4).b (s.regs.getD (c.list.getD s.pc.toNat cD4).c.toNat 0) (s.regs.getD (c.list.getD s.pc.toNat cD4).d.toNat 0))):=(by rw[hst.1]);have e3:((l0 c s).mem.vals:List Int)=(s.mem.vals):=(by rw[hst.1]);have e4:((l0 c s).mem.arrs:List (List Int))=(s.mem.arrs):=(by rw[hst.1]);rw[e1,e2,e3,e4, <-hE,hst.2]<;>rfl)
      have q4:=eq_of_beq h4;have hst:=cw9 (c:=c) (s:=s) (show(c.list.getD s.pc.toNat cD4).op=5 by omega);have hfi:=f5 al;have hr4:=co1 m5 (i:=(c.list.getD s.pc.toNat cD4).a) al al;have htm:=tmV (hrv (c.list.getD s.pc.toNat cD4).b.toNat);refine rT G _ h4 (wp_seq (H0 G f8 [(10,iA (aJ7 c s))] (iX ((c.list.getD s.pc.toNat cD4).b) ((c.list.getD s.pc.toNat cD4).b.toNat) s.regs.length []) (iK al cF1) fun G=>b6 (wp_seq (R9 G (x6 4 [] (aY0 ((c.list.getD s.pc.toNat cD4).a) (s.regs.getD (c.list.getD s.pc.toNat cD4).b.toNat 0) al (hrv _))) [0,1,2,3,4,5,6,7,65] (U2 s::.row 3 (D.ints s.regs)::(F5 c s [a80 c s,.row 39 (D.events ([(5,s.pc)]++[]++([(3,(c.list.getD s.pc.toNat cD4).a*4+(aJ7 c s).tmod 4)]++[])))])) (ac9 s [(10,iA (aJ7 c s))]) [([((5:Int),s.pc)]++[]).length+([((3:Int),(c.list.getD s.pc.toNat cD4).a*4+(s.regs.getD (c.list.getD s.pc.toNat cD4).b.toNat (0:Int)).tmod (4:Int))]++[]).length<=(9223372036854775807:Nat),(([((5:Int),s.pc)]++[]).length+([((3:Int),(c.list.getD s.pc.toNat cD4).a*4+(s.regs.getD (c.list.getD s.pc.toNat cD4).b.toNat (0:Int)).tmod (4:Int))]++[]).length)*(16:Nat)<=(140737488355328:Nat)] ⟨(by simp[hc,hs,m4,m5,w3,w4,h0,h1,h2,h3,h4]),(by simp[hc,hs,m4,m5,w3,w4,h0,h1,h2,h3,h4]),cF1⟩ fun G=>b6 (K7 G f8 [0,1,3,7,15,0,32,127,255,0,512,0,0,4096,14336,30720,65535,131071] [0,1,2,3,4,5,6,8,73] [.box [iA s.pc,.ref 1,.ref 2,.tref 3],.row 3 (D.ints s.regs),.row 3 (D.ints s.mem.vals),.hole 8 (c.list.getD s.pc.toNat cD4).a.toNat s.mem.arrs,dI c.vars,dI c.arrays,dN c.list,.row 39 (D.events ([(5,s.pc)]++[]++([(3,(c.list.getD s.pc.toNat cD4).a*4+(s.regs.getD (c.list.getD s.pc.toNat cD4).b.toNat 0).tmod 4)]++[]))),.row 3 (D.ints ((s.mem.arrs.getD (c.list.getD s.pc.toNat cD4).a.toNat []).set ((s.regs.getD (c.list.getD s.pc.toNat cD4).b.toNat 0).tmod 4).toNat (s.regs.getD (c.list.getD s.pc.toNat cD4).c.toNat 0)))] ((0,.ptr 0 0)::(I2 [(8,iA (s.pc+1))])) (iX ((c.list.getD s.pc.toNat cD4).a) ((c.list.getD s.pc.toNat cD4).a.toNat) s.mem.arrs.length (((4:Int)≠0)::(iX ((c.list.getD s.pc.toNat cD4).c) ((c.list.getD s.pc.toNat cD4).c.toNat) s.regs.length (iX ((s.regs.getD (c.list.getD s.pc.toNat cD4).b.toNat (0:Int)).tmod (4:Int)) (((s.regs.getD (c.list.getD s.pc.toNat cD4).b.toNat (0:Int)).tmod (4:Int)).toNat) ((s.mem.arrs.getD (c.list.getD s.pc.toNat cD4).a.toNat []).length) [])))) (iK al ⟨al,(iK al (iK al cF1))⟩) fun G=>?_)))));replace G:=G.heal 3 8 ((c.list.getD s.pc.toNat cD4).a.toNat) s.mem.arrs ((s.mem.arrs.getD (c.list.getD s.pc.toNat cD4).a.toNat []).set ((s.regs.getD (c.list.getD s.pc.toNat cD4).b.toNat 0).tmod 4).toNat (s.regs.getD (c.list.getD s.pc.toNat cD4).c.toNat 0)) [.box [iA s.pc,.ref 1,.ref 2,.tref 3],.row 3 (D.ints s.regs),.row 3 (D.ints s.mem.vals),.tree (D.rows (s.mem.arrs.set (c.list.getD s.pc.toNat cD4).a.toNat ((s.mem.arrs.getD (c.list.getD s.pc.toNat cD4).a.toNat []).set ((s.regs.getD (c.list.getD s.pc.toNat cD4).b.toNat 0).tmod 4).toNat (s.regs.getD (c.list.getD s.pc.toNat cD4).c.toNat 0)))),dI c.vars,dI c.arrays,dN c.list,.row 39 (D.events ([(5,s.pc)]++[]++([(3,(c.list.getD s.pc.toNat cD4).a*4+(s.regs.getD (c.list.getD s.pc.toNat cD4).b.toNat 0).tmod 4)]++[]))),.dead]
      refine m8 (b6 (wp_seq (j7 G f8 (rg 8) [ai7 s,.row 3 (D.ints s.regs),.row 3 (D.ints s.mem.vals),.tree (D.rows (s.mem.arrs.set (c.list.getD s.pc.toNat cD4).a.toNat ((s.mem.arrs.getD (c.list.getD s.pc.toNat cD4).a.toNat []).set ((aJ7 c s).tmod 4).toNat (av0 c s)))),dI c.vars,dI c.arrays,dN c.list,.row 39 (D.events ([(5,s.pc)]++[]++([(3,(c.list.getD s.pc.toNat cD4).a*4+(aJ7 c s).tmod 4)]++[])))] (I2 []) fun G=>b6 (wp_seq (l6 G f8 [(4,.ref 7)] fun G=>b6 (wp_ret ?_))))));exact G7 G (rg 8) (by show _=mR (rg 8) (F0 c s E);unfold F0;have e1:((l0 c s).pc:Int)=(s.pc+1):=(by rw[hst.1]);have e2:((l0 c s).regs:List Int)=(s.regs):=(by rw[hst.1]);have e3:((l0 c s).mem.vals:List Int)=(s.mem.vals):=(by rw[hst.1]);have e4:((l0 c s).mem.arrs:List (List Int))=(s.mem.arrs.set (c.list.getD s.pc.toNat cD4).a.toNat ((s.mem.arrs.getD (c.list.getD s.pc.toNat cD4).a.toNat []).set ((s.regs.getD (c.list.getD s.pc.toNat cD4).b.toNat 0).tmod 4).toNat (s.regs.getD (c.list.getD s.pc.toNat cD4).c.toNat 0))):=(by rw[hst.1]);rw[e1,e2,e3,e4, <-hE,hst.2]<;>rfl)
     have q3:=eq_of_beq h3;have hst:=cx0 (c:=c) (s:=s) (show(c.list.getD s.pc.toNat cD4).op=4 by omega);have hfi:=f4 al;have hr4:=co1 m5 (i:=(c.list.getD s.pc.toNat cD4).b) al al;have htm:=tmV (hrv (c.list.getD s.pc.toNat cD4).c.toNat);refine rT G _ h3 (wp_seq (H0 G f8 [(9,iA (av0 c s))] (iX ((c.list.getD s.pc.toNat cD4).c) ((c.list.getD s.pc.toNat cD4).c.toNat) s.regs.length []) (iK al cF1) fun G=>b6 (wp_seq (R9 G (x6 4 [] (aY0 ((c.list.getD s.pc.toNat cD4).b) (s.regs.getD (c.list.getD s.pc.toNat cD4).c.toNat 0) al (hrv _))) [0,1,2,3,4,5,6,7,65] (U2 s::.row 3 (D.ints s.regs)::(F5 c s [a80 c s,.row 39 (D.events ([(5,s.pc)]++[]++([(2,(c.list.getD s.pc.toNat cD4).b*4+(av0 c s).tmod 4)]++[])))])) (ac9 s [(9,iA (av0 c s))]) [([((5:Int),s.pc)]++[]).length+([((2:Int),(c.list.getD s.pc.toNat cD4).b*4+(s.regs.getD (c.list.getD s.pc.toNat cD4).c.toNat (0:Int)).tmod (4:Int))]++[]).length<=(9223372036854775807:Nat),(([((5:Int),s.pc)]++[]).length+([((2:Int),(c.list.getD s.pc.toNat cD4).b*4+(s.regs.getD (c.list.getD s.pc.toNat cD4).c.toNat (0:Int)).tmod (4:Int))]++[]).length)*(16:Nat)<=(140737488355328:Nat)] ⟨(by simp[hc,hs,m4,m5,w3,w4,h0,h1,h2,h3]),(by simp[hc,hs,m4,m5,w3,w4,h0,h1,h2,h3]),cF1⟩ fun G=>b6 (K7 G f8 [0,0,2,0,8,24,56,120,0,256,1016,2040,0,4096,16376,32760,65535,131071] [0,1,2,3,4,5,6,8,97] [.box [iA s.pc,.ref 1,.ref 2,.tref 3],.row 3 (D.ints (s.regs.set (c.list.getD s.pc.toNat cD4).a.toNat ((s.mem.arrs.getD (c.list.getD s.pc.toNat cD4).b.toNat []).getD ((s.regs.getD (c.list.getD s.pc.toNat cD4).c.toNat 0).tmod 4).toNat 0))),.row 3 (D.ints s.mem.vals),.hole 8 (c.list.getD s.pc.toNat cD4).b.toNat s.mem.arrs,dI c.vars,dI c.arrays,dN c.list,.row 39 (D.events ([(5,s.pc)]++[]++([(2,(c.list.getD s.pc.toNat cD4).b*4+(s.regs.getD (c.list.getD s.pc.toNat cD4).c.toNat 0).tmod 4)]++[]))),.row 3 (D.ints (s.mem.arrs.getD (c.list.getD s.pc.toNat cD4).b.toNat []))] ((0,.ptr 0 0)::(I2 [(8,iA (s.pc+1))])) (iX ((c.list.getD s.pc.toNat cD4).b) ((c.list.getD s.pc.toNat cD4).b.toNat) s.mem.arrs.length (((4:Int)≠0)::(iX ((s.regs.getD (c.list.getD s.pc.toNat cD4).c.toNat (0:Int)).tmod (4:Int)) (((s.regs.getD (c.list.getD s.pc.toNat cD4).c.toNat (0:Int)).tmod (4:Int)).toNat) ((s.mem.arrs.getD (c.list.getD s.pc.toNat cD4).b.toNat []).length) (iX ((c.list.getD s.pc.toNat cD4).a) ((c.list.getD s.pc.toNat cD4).a.toNat) s.regs.length [])))) (iK al ⟨al,(iK al (iK al cF1))⟩) fun G=>?_)))));replace G:=G.heal0 3 8 ((c.list.getD s.pc.toNat cD4).b.toNat) s.mem.arrs (.box [iA s.pc,.ref 1,.ref 2,.tref 3]::.row 3 (D.ints (s.regs.set (c.list.getD s.pc.toNat cD4).a.toNat ((s.mem.arrs.getD (c.list.getD s.pc.toNat cD4).b.toNat []).getD ((s.regs.getD (c.list.getD s.pc.toNat cD4).c.toNat 0).tmod 4).toNat 0)))::(F5 c s [.row 39 (D.events ([(5,s.pc)]++[]++([(2,(c.list.getD s.pc.toNat cD4).b*4+(s.regs.getD (c.list.getD s.pc.toNat cD4).c.toNat 0).tmod 4)]++[]))),.dead]))
     refine m8 (b6 (wp_seq (j7 G f8 (rg 8) (ai7 s::.row 3 (D.ints (s.regs.set (c.list.getD s.pc.toNat cD4).a.toNat ((s.mem.arrs.getD (c.list.getD s.pc.toNat cD4).b.toNat []).getD ((av0 c s).tmod 4).toNat 0)))::(F5 c s [.row 39 (D.events ([(5,s.pc)]++[]++([(2,(c.list.getD s.pc.toNat cD4).b*4+(av0 c s).tmod 4)]++[])))])) (I2 []) fun G=>b6 (wp_seq (l6 G f8 [(4,.ref 7)] fun G=>b6 (wp_ret ?_))))));exact G7 G (rg 8) (by show _=mR (rg 8) (F0 c s E);unfold F0;have e1:((l0 c s).pc:Int)=(s.pc+1):=(by rw[hst.1]);have e2:((l0 c s).regs:List Int)=(s.regs.set (c.list.getD s.pc.toNat cD4).a.toNat ((s.mem.arrs.getD (c.list.getD s.pc.toNat cD4).b.toNat []).getD ((s.regs.getD (c.list.getD s.pc.toNat cD4).c.toNat 0).tmod 4).toNat 0)):=(by rw[hst.1]);have e3:((l0 c s).mem.vals:List Int)=(s.mem.vals):=(by rw[hst.1]);have e4:((l0 c s).mem.arrs:List (List Int))=(s.mem.arrs):=(by rw[hst.1]);rw[e1,e2,e3,e4, <-hE,hst.2]<;>rfl)
    have q2:=eq_of_beq h2;have hst:=cx1 (c:=c) (s:=s) (show(c.list.getD s.pc.toNat cD4).op=3 by omega);have hfi:=f3 al;refine rT G _ h2 (K7 G f8 [0,1,3,7,15,0,32,0,0,256,896,1920,4095,8191] [0,1,2,3,4,5,6,8] [U2 s,.row 3 (D.ints s.regs),.row 3 (D.ints (s.mem.vals.set (c.list.getD s.pc.toNat cD4).a.toNat (aJ7 c s))),.tree (D.rows s.mem.arrs),dI c.vars,dI c.arrays,dN c.list,N4 s] ((0,.ptr 0 0)::(I2 [(8,iA (s.pc+1))])) (iX ((c.list.getD s.pc.toNat cD4).b) ((c.list.getD s.pc.toNat cD4).b.toNat) s.regs.length (iX ((c.list.getD s.pc.toNat cD4).a) ((c.list.getD s.pc.toNat cD4).a.toNat) s.mem.vals.length [])) (iK al (iK al cF1)) fun G=>m8 (b6 (wp_seq (j7 G f8 (rg 8) [ai7 s,.row 3 (D.ints s.regs),.row 3 (D.ints (s.mem.vals.set (c.list.getD s.pc.toNat cD4).a.toNat (aJ7 c s))),.tree (D.rows s.mem.arrs),dI c.vars,dI c.arrays,dN c.list,N4 s] (I2 []) fun G=>b6 (wp_seq (l6 G f8 [(4,.ref 7)] fun G=>b6 (wp_ret ?_)))))));exact G7 G (rg 8) (by show _=mR (rg 8) (F0 c s E);unfold F0;have e1:((l0 c s).pc:Int)=(s.pc+1):=(by rw[hst.1]);have e2:((l0 c s).regs:List Int)=(s.regs):=(by rw[hst.1]);have e3:((l0 c s).mem.vals:List Int)=(s.mem.vals.set (c.list.getD s.pc.toNat cD4).a.toNat (s.regs.getD (c.list.getD s.pc.toNat cD4).b.toNat 0)):=(by rw[hst.1]);have e4:((l0 c s).mem.arrs:List (List Int))=(s.mem.arrs):=(by rw[hst.1]);rw[e1,e2,e3,e4, <-hE,hst.2]<;>rfl)
   have q1:=eq_of_beq h1;have hst:=cx2 (c:=c) (s:=s) (show(c.list.getD s.pc.toNat cD4).op=2 by omega);have hfi:=f2 al;refine rT G _ h1 (K7 G f8 [0,0,2,0,8,24,56,120,0,256,1016,2040,4095,8191] [0,1,2,3,4,5,6,8] (U2 s::.row 3 (D.ints (s.regs.set (c.list.getD s.pc.toNat cD4).a.toNat (s.mem.vals.getD (c.list.getD s.pc.toNat cD4).b.toNat 0)))::(F5 c s [N4 s])) ((0,.ptr 0 0)::(I2 [(8,iA (s.pc+1))])) (iX ((c.list.getD s.pc.toNat cD4).b) ((c.list.getD s.pc.toNat cD4).b.toNat) s.mem.vals.length (iX ((c.list.getD s.pc.toNat cD4).a) ((c.list.getD s.pc.toNat cD4).a.toNat) s.regs.length [])) (iK al (iK al cF1)) fun G=>m8 (b6 (wp_seq (j7 G f8 (rg 8) (ai7 s::.row 3 (D.ints (s.regs.set (c.list.getD s.pc.toNat cD4).a.toNat (s.mem.vals.getD (c.list.getD s.pc.toNat cD4).b.toNat 0)))::(F5 c s [N4 s])) (I2 []) fun G=>b6 (wp_seq (l6 G f8 [(4,.ref 7)] fun G=>b6 (wp_ret ?_)))))));exact G7 G (rg 8) (by show _=mR (rg 8) (F0 c s E);unfold F0;have e1:((l0 c s).pc:Int)=(s.pc+1):=(by rw[hst.1]);have e2:((l0 c s).regs:List Int)=(s.regs.set (c.list.getD s.pc.toNat cD4).a.toNat (s.mem.vals.getD (c.list.getD s.pc.toNat cD4).b.toNat 0)):=(by rw[hst.1]);have e3:((l0 c s).mem.vals:List Int)=(s.mem.vals):=(by rw[hst.1]);have e4:((l0 c s).mem.arrs:List (List Int))=(s.mem.arrs):=(by rw[hst.1]);rw[e1,e2,e3,e4, <-hE,hst.2]<;>rfl)
  have q0:=eq_of_beq h0;have hst:=cx3 (c:=c) (s:=s) (show(c.list.getD s.pc.toNat cD4).op=1 by omega);have hfi:=f1 al;refine rT G _ h0 (R9 G f8 [0,1,2,3,4,5,6,8] (U2 s::.row 3 (D.ints (s.regs.set (c.list.getD s.pc.toNat cD4).a.toNat (c.list.getD s.pc.toNat cD4).b))::(F5 c s [N4 s])) ((0,.ptr 0 0)::(I2 [(8,iA (s.pc+1))])) (iX ((c.list.getD s.pc.toNat cD4).a) ((c.list.getD s.pc.toNat cD4).a.toNat) s.regs.length []) (iK al cF1) fun G=>m8 (b6 (wp_seq (j7 G f8 (rg 8) (ai7 s::.row 3 (D.ints (s.regs.set (c.list.getD s.pc.toNat cD4).a.toNat (c.list.getD s.pc.toNat cD4).b))::(F5 c s [N4 s])) (I2 []) fun G=>b6 (wp_seq (l6 G f8 [(4,.ref 7)] fun G=>b6 (wp_ret ?_)))))));exact G7 G (rg 8) (by show _=mR (rg 8) (F0 c s E);unfold F0;have e1:((l0 c s).pc:Int)=(s.pc+1):=(by rw[hst.1]);have e2:((l0 c s).regs:List Int)=(s.regs.set (c.list.getD s.pc.toNat cD4).a.toNat (c.list.getD s.pc.toNat cD4).b):=(by rw[hst.1]);have e3:((l0 c s).mem.vals:List Int)=(s.mem.vals):=(by rw[hst.1]);have e4:((l0 c s).mem.arrs:List (List Int))=(s.mem.arrs):=(by rw[hst.1]);rw[e1,e2,e3,e4, <-hE,hst.2]<;>rfl)
theorem ch8(c:d8)(s:y5)(hc:l5 c=true)(hs:Z4 c s=true):j8.ok Tryz.prog ⟨125,[.ptr 0 0,pA 4],stI s++kcS c,stI (l0 c s)++kcS c++[.row 39 (.events (E2 c s))],.ref 7⟩:=cb1 c s hc hs _ rfl
theorem cv3(c:d8):j8.ok Tryz.prog (P1 31 [pA 0] (kcS c) (bA (l5 c))):=
 at2 fun φ w ρ h=>(am4 _ c w ⟨ρ 0,ρ 1,ρ 2,rfl,A6.row (h 0 _ rfl),A6.row (h 1 _ rfl),A6.row (h 2 _ rfl)⟩).mono fun e w' h=>h
abbrev smO(s:y5):List It:=[.row 3 (.ints s.regs),.row 3 (.ints s.mem.vals),.tree (.rows s.mem.arrs)]
theorem bV3(c:d8)(m:z6):j8.ok Tryz.prog (P1 55 [.ref 0,.ref 1,mA 2] [dI c.vars,dI c.arrays,dI m.vals,dR m.arrs] (bA (L4 c.vars.length c.arrays.length m))):=bq8 c.vars c.arrays m.vals m.arrs
structure ag4(c:d8)(a b:z6):Prop where
 v:∀i:Int,scB (Q1 c.vars i)=false->a.vals.getD i.toNat 0=b.vals.getD i.toNat 0
 r:∀i:Int,scB (Q1 c.arrays i)=false->a.arrs.getD i.toNat []=b.arrs.getD i.toNat []
def an3(t:List Bool)(r s:List Int):Prop:=∀k:Nat,t.getD k false=false->r.getD k 0=s.getD k 0
theorem bE0(l:List Int)(i k:Nat)(x:Int):(l.set i x).getD k 0=if i=k/\i<l.length then x else l.getD k 0:=by
 rw[cD7,cH9]
 by_cases h:i=k
 ·subst h
  rw[if_pos rfl]
  by_cases h2:i<l.length
  ·rw[if_pos h2,if_pos ⟨rfl,h2⟩];rfl
  rw[if_neg h2,if_neg fun h=>h2 h.2];simp[h2]
 rw[if_neg h,if_neg fun g=>h g.1];exact(cD7 ..).symm
theorem cs1(l:List (List Int))(i k:Nat)(x:List Int):(l.set i x).getD k []=if i=k/\i<l.length then x else l.getD k []:=by
 rw[cD7,cH9]
 by_cases h:i=k
 ·subst h
  rw[if_pos rfl]
  by_cases h2:i<l.length
  ·rw[if_pos h2,if_pos ⟨rfl,h2⟩];rfl
  rw[if_neg h2,if_neg fun h=>h2 h.2];simp[h2]
 rw[if_neg h,if_neg fun g=>h g.1];exact(cD7 ..).symm
theorem cs2(l:List Bool)(i k:Nat)(x:Bool):(l.set i x).getD k false=if i=k/\i<l.length then x else l.getD k false:=by
 rw[cD7,cH9]
 by_cases h:i=k
 ·subst h
  rw[if_pos rfl]
  by_cases h2:i<l.length
  ·rw[if_pos h2,if_pos ⟨rfl,h2⟩];rfl
  rw[if_neg h2,if_neg fun h=>h2 h.2];simp[h2]
 rw[if_neg h,if_neg fun g=>h g.1];exact(cD7 ..).symm
theorem aw8{t:List Bool}{r s:List Int}(h:an3 t r s)(hr:r.length=14)(hs:s.length=14)(ht:t.length=14){i:Nat}{x y:Int}{b:Bool}(hb:b=false->x=y):an3 (t.set i b) (r.set i x) (s.set i y):=by
 intro k hk
 rw[cs2]at hk
 rw[bE0,bE0]
 by_cases e:i=k/\i<14
 ·rw[if_pos ⟨e.1,al⟩]at hk
  rw[if_pos ⟨e.1,al⟩,if_pos ⟨e.1,al⟩];exact hb hk
 rw[if_neg fun g=>e ⟨g.1,al⟩]at hk
 rw[if_neg fun g=>e ⟨g.1,al⟩,if_neg fun g=>e ⟨g.1,al⟩];exact h k hk
theorem cc0{t:List Bool}{r s:List Int}(h:an3 t r s){x:Int}(hx:bAt t x=false):r.getD x.toNat 0=s.getD x.toNat 0:=h _ hx
theorem bW7{c:d8}{x:d9}{a b:z6}{nv na:Nat}(hP:ag4 c a b)(ha:L4 nv na a=true)(hb:L4 nv na b=true){y z:Int}(h:scB (Q1 c.vars x.a)=false->y=z):ag4 c ⟨a.vals.set x.a.toNat y,a.arrs⟩ ⟨b.vals.set x.a.toNat z,b.arrs⟩:=by
 refine⟨fun i hi=>?_,hP.r⟩
 obtain⟨f1,-⟩:=ae9 ha
 obtain⟨g1,-⟩:=ae9 hb
 dsimp only
 rw[bE0,bE0,f1,g1]
 by_cases g:x.a.toNat=i.toNat/\x.a.toNat<nv
 ·rw[if_pos g,if_pos g]
  refine h ?_
  have e:Q1 c.vars x.a=Q1 c.vars i:=by unfold Q1;rw[g.1]
  rw[e];exact hi
 rw[if_neg g,if_neg g];exact hP.v i hi
theorem bA8{c:d8}{x:d9}{a b:z6}{nv na:Nat}(hP:ag4 c a b)(ha:L4 nv na a=true)(hb:L4 nv na b=true){k:Nat}{y z:Int}(h:scB (Q1 c.arrays x.a)=false->y=z):ag4 c ⟨a.vals,a.arrs.set x.a.toNat ((a.arrs.getD x.a.toNat []).set k y)⟩ ⟨b.vals,b.arrs.set x.a.toNat ((b.arrs.getD x.a.toNat []).set k z)⟩:=by
 refine⟨hP.v,fun i hi=>?_⟩
 obtain⟨_,f1,-⟩:=ae9 ha
 obtain⟨_,g1,-⟩:=ae9 hb
 dsimp only
 rw[cs1,cs1,f1,g1]
 by_cases g:x.a.toNat=i.toNat/\x.a.toNat<na
 ·rw[if_pos g,if_pos g]
  have e:Q1 c.arrays x.a=Q1 c.arrays i:=by unfold Q1;rw[g.1]
  rw[h (by rw[e];exact hi),g.1,hP.r i hi]
 rw[if_neg g,if_neg g];exact hP.r i hi
theorem bJ0{c:d8}{x:d9}{t:List Bool}{a b:z6}{r s:List Int}{nv na:Nat}(hx:C2 c x=true)(ho:G6 c x t=0)(hP:ag4 c a b)(ha:L4 nv na a=true)(hb:L4 nv na b=true)(hR:an3 t r s)(hr:r.length=14)(hs:s.length=14)(ht:t.length=14):
  (∃y z,y≠z/\stE x r=[(4,y)]/\stE x s=[(4,z)])\/
  (stE x r=stE x s/\an3 (n6 c x t) (stR a x r) (stR b x s)/\ag4 c (stM a x r) (stM b x s)/\∀pc,stP x r pc=stP x s pc):=by
 have ho1:1<=x.op/\x.op<=13:=by
  unfold C2 at hx
  simp only[cD5,decide_eq_true_eq]at hx
  exact hx.1
 have hq:=fun y hy=>cc0 (x:=y) hR hy
 rcases bN3 ho1.1 ho1.2 with e|e|e|e|e|e|e|e|e|e|e|e|e
 ·right
  refine⟨by simp[stE,e],?_,by simpa[stM,e]using hP,by simp[stP,e]⟩
  simp only[n6,z5,stR,e]
  exact aw8 hR hr hs ht fun _=>rfl
 ·right
  refine⟨by simp[stE,e],?_,by simpa[stM,e]using hP,by simp[stP,e]⟩
  have e1:n6 c x t=t.set x.a.toNat (scB (Q1 c.vars x.b)):=by simp[n6,z5,e]
  have e2:∀m r,stR m x r=r.set x.a.toNat (m.vals.getD x.b.toNat 0):=fun m r=>by simp[stR,e]
  rw[e1,e2,e2]
  exact aw8 hR hr hs ht fun h=>hP.v _ h
 ·right
  refine⟨by simp[stE,e],by simpa[stR,n6,z5,e]using hR,?_,by simp[stP,e]⟩
  have e1:∀(m:z6) (r:List Int),stM m x r=⟨m.vals.set x.a.toNat (r.getD x.b.toNat 0),m.arrs⟩:=fun m r=>by simp[stM,e]
  rw[e1,e1]
  refine bW7 hP ha hb fun h=>hq _ ?_
  unfold G6 at ho
  rw[if_pos e,h]at ho
  cases hb:bAt t x.b with
  |false=>rfl
  |true=>rw[hb]at ho;simp at ho
 ·right
  have hb:bAt t x.c=false:=by
   unfold G6 at ho
   rw[if_neg al,if_pos e]at ho
   cases hb:bAt t x.c with
   |false=>rfl
   |true=>rw[hb]at ho;simp at ho
  have e0:∀r,stE x r=[(2,x.b*4+(r.getD x.c.toNat 0).tmod 4)]:=fun r=>by simp[stE,e]
  refine⟨by rw[e0,e0,hq _ hb],?_,by simpa[stM,e]using hP,by simp[stP,e]⟩
  have e1:n6 c x t=t.set x.a.toNat (scB (Q1 c.arrays x.b)):=by simp[n6,z5,e,hb]
  have e2:∀m r,stR m x r=r.set x.a.toNat ((m.arrs.getD x.b.toNat []).getD ((r.getD x.c.toNat 0).tmod 4).toNat 0):=fun m r=>by simp[stR,e]
  rw[e1,e2,e2]
  exact aw8 hR hr hs ht fun h=>by rw[hq _ hb,hP.r _ h]
 ·right
  have hb:bAt t x.b=false/\(scB (Q1 c.arrays x.a)=false->bAt t x.c=false):=by
   unfold G6 at ho
   rw[if_neg al,if_neg al,if_pos e]at ho
   cases hb:bAt t x.b with
   |true=>rw[hb]at ho;simp at ho
   |false=>
    refine⟨rfl,fun h=>?_⟩
    rw[hb,h]at ho
    cases hb:bAt t x.c with
    |false=>rfl
    |true=>rw[hb]at ho;simp at ho
  have e0:∀r,stE x r=[(3,x.a*4+(r.getD x.b.toNat 0).tmod 4)]:=fun r=>by simp[stE,e]
  refine⟨by rw[e0,e0,hq _ hb.1],by simpa[stR,n6,z5,e]using hR,?_,by simp[stP,e]⟩
  have e1:∀(m:z6) (r:List Int),stM m x r=⟨m.vals,m.arrs.set x.a.toNat ((m.arrs.getD x.a.toNat []).set ((r.getD x.b.toNat 0).tmod 4).toNat (r.getD x.c.toNat 0))⟩:=fun m r=>by simp[stM,e]
  rw[e1,e1,hq _ hb.1]
  exact bA8 hP ha ‹_› fun h=>hq _ (hb.2 h)
 ·right
  refine⟨by simp[stE,e],?_,by simpa[stM,e]using hP,by simp[stP,e]⟩
  have e1:n6 c x t=t.set x.a.toNat (bAt t x.c||bAt t x.d):=by simp[n6,z5,e]
  have e2:∀m r,stR m x r=r.set x.a.toNat (N8 x.b (r.getD x.c.toNat 0) (r.getD x.d.toNat 0)):=fun m r=>by simp[stR,e]
  rw[e1,e2,e2]
  refine aw8 hR hr hs ht fun h=>?_
  rw[Bool.or_eq_false_iff]at h
  rw[hq _ h.1,hq _ h.2]
 ·right
  refine⟨by simp[stE,e],?_,by simpa[stM,e]using hP,by simp[stP,e]⟩
  have e1:n6 c x t=t.set x.a.toNat (bAt t x.b||bAt t x.c||bAt t x.d):=by simp[n6,z5,e]
  have e2:∀m r,stR m x r=r.set x.a.toNat (if r.getD x.b.toNat 0=0 then r.getD x.d.toNat 0 else r.getD x.c.toNat 0):=fun m r=>by simp[stR,e]
  rw[e1,e2,e2]
  refine aw8 hR hr hs ht fun h=>?_
  rw[Bool.or_eq_false_iff,Bool.or_eq_false_iff]at h
  rw[hq _ h.1.1,hq _ h.1.2,hq _ h.2]
 ·right
  exact⟨by simp[stE,e],by simpa[stR,n6,z5,e]using hR,by simpa[stM,e]using hP,by simp[stP,e]⟩
 ·right
  have hb:bAt t x.a=false:=by
   unfold G6 at ho
   rw[if_neg al,if_neg al,if_neg al,if_pos (.inl e)]at ho
   cases hb:bAt t x.a with
   |false=>rfl
   |true=>rw[hb]at ho;simp at ho
  exact⟨by simp[stE,e],by simpa[stR,n6,z5,e]using hR,by simpa[stM,e]using hP,fun pc=>(by
   have e0:∀r,stP x r pc=if r.getD x.a.toNat 0=0 then x.b else pc+1:=fun r=>by simp[stP,e]
   rw[e0,e0,hq _ hb])⟩
 ·right
  have hb:bAt t x.a=false:=by
   unfold G6 at ho
   rw[if_neg al,if_neg al,if_neg al,if_pos (.inr e)]at ho
   cases hb:bAt t x.a with
   |false=>rfl
   |true=>rw[hb]at ho;simp at ho
  refine⟨by simp[stE,e],?_,by simpa[stM,e]using hP,fun pc=>?_⟩
  rotate_left
  ·have e0:∀r,stP x r pc=if(r.getD x.a.toNat 0+255).tmod 256=0 then pc+1 else x.b:=fun r=>by simp[stP,e]
   rw[e0,e0,hq _ hb]
  have e1:n6 c x t=t:=by simp[n6,z5,e]
  have e2:∀m r,stR m x r=r.set x.a.toNat ((r.getD x.a.toNat 0+255).tmod 256):=fun m r=>by simp[stR,e]
  rw[e1,e2,e2,hq _ hb]
  intro k hk
  rw[bE0,bE0,hr,hs]
  split
  ·rfl
  exact hR k hk
 ·by_cases h:r.getD x.a.toNat 0=s.getD x.a.toNat 0
  ·right
   have e0:∀r,stE x r=[(4,r.getD x.a.toNat 0)]:=fun r=>by simp[stE,e]
   refine⟨by rw[e0,e0,h],?_,by simpa[stM,e]using hP,by simp[stP,e]⟩
   have e1:n6 c x t=t.set x.a.toNat false:=by simp[n6,z5,e]
   have e2:∀m r,stR m x r=r:=fun m r=>by simp[stR,e]
   rw[e1,e2,e2]
   intro k hk
   rw[cs2]at hk
   by_cases g:x.a.toNat=k/\x.a.toNat<t.length
   ·rw[<-g.1];exact h
   rw[if_neg g]at hk;exact hR k hk
  left
  exact⟨_,_,h,by simp[stE,e],by simp[stE,e]⟩
 ·right
  exact⟨by simp[stE,e],by simpa[stR,n6,z5,e]using hR,by simpa[stM,e]using hP,by simp[stP,e]⟩
 right
 exact⟨by simp[stE,e],by simpa[stR,n6,z5,e]using hR,by simpa[stM,e]using hP,by simp[stP,e]⟩
def Q6(v w:List (Int×Int)):Prop:=∃p y z q r,y≠z/\v=p++(4,y)::q/\w=p++(4,z)::r
theorem aa6{v w:List (Int×Int)}(h:Q6 v w)(x y:List (Int×Int)):Q6 (v++x) (w++y):=by
 obtain⟨p,a,b,q,r,h1,h2,h3⟩:=h
 exact⟨p,a,b,q++x,r++y,h1,by rw[h2];simp,by rw[h3];simp⟩
structure ci6(c:d8)(p:List (List Bool))(s t:y5):Prop where
 pc:s.pc=t.pc
 rg:an3 (rowAt p s.pc) s.regs t.regs
 mm:ag4 c s.mem t.mem
 row:(rowAt p s.pc).length≠0
theorem bz4{t row:List Bool}{r s:List Int}(h:ac3 t row=true)(ht:t.length=row.length)(hR:an3 t r s):an3 row r s:=by
 unfold ac3 at h
 simp only[cD5]at h
 intro k hk
 apply hR
 cases hb:t.getD k false with
 |false=>rfl
 | true =>
  have hl:k<t.length:=by
   rcases cF9 k t.length with h1|h1
   ·exact h1
   rw[cD7,cF6 h1]at hb;cases hb
  have:=cE2.1 h.2 k (cH4.2 hl)
  rw[hb,hk]at this;simp at this
theorem bG6{c:d8}(hc:l5 c=true){p:List (List Bool)}(hp:U4 c p)(hb:I1 c p p.length=false){s t:y5}(h:ci6 c p s t)(hs:Z4 c s=true)(ht:Z4 c t=true):
  (Q6 (E2 c s) (E2 c t))\/(E2 c s=E2 c t/\V6 c s=V6 c t/\(ci6 c p (l0 c s) (l0 c t))):=by
 obtain⟨a1,a2,a3,a4,a5⟩:=ao3 hs
 obtain⟨b1,b2,b3,b4,b5⟩:=ao3 ht
 have hi:aa2 c t=aa2 c s:=by unfold aa2;rw[h.pc]
 have hl:s.pc.toNat<p.length:=by rw[hp.1];omega
 have hn:((s.pc.toNat:Nat):Int)=s.pc:=al
 have h14:(rowAt p s.pc).length=14:=(F3 hp.2.1 s.pc).resolve_left h.row
 have ho:G6 c (aa2 c s) (rowAt p s.pc)=0:=by
  rcases au4.1 hb s.pc.toNat hl with h1|h1
  ·rw[hn]at h1;exact absurd h1 h.row
  rw[hn]at h1;exact h1
 rcases bJ0 (a43 hc a1 a2) ho h.mm a5 b5 h.rg a3 b3 h14 with⟨y,z,g1,g2,g3⟩|⟨g1,g2,g3,g4⟩
 ·left
  refine⟨[(5,s.pc)],y,z,[],[],g1,?_,?_⟩
  ·unfold E2;rw[g2];rfl
  unfold E2;rw[hi,g3,h.pc];rfl
 right
 refine⟨by unfold E2;rw[hi,g1,h.pc],by unfold V6;rw[hi],?_⟩
 have hpc:(l0 c t).pc=(l0 c s).pc:=by
  show stP (aa2 c t) t.regs t.pc=stP (aa2 c s) s.regs s.pc
  rw[hi, <-g4,h.pc]
 have hrow:(rowAt p (l0 c s).pc).length≠0/\an3 (rowAt p (l0 c s).pc) (l0 c s).regs (l0 c t).regs:=by
  have hre:an3 (n6 c (aa2 c s) (rowAt p s.pc)) (l0 c s).regs (l0 c t).regs:=by
   show an3 _ (stR s.mem (aa2 c s) s.regs) (stR t.mem (aa2 c t) t.regs)
   rw[hi];exact g2
  rcases(bu4 hc a1 a2).2 with e|e
  ·by_cases h13:(aa2 c s).op=13
   ·rw[e]
    refine⟨h.row,?_⟩
    have:n6 c (aa2 c s) (rowAt p s.pc)=rowAt p s.pc:=by simp[n6,z5,h13]
    rwa[this]at hre
   have hm:(l0 c s).pc∈nx c s.pc:=by rw[cp5 a1 a2];exact a95 h13
   have hcov:=bc2 hp a1 a2 h.row hm
   have hne:(rowAt p (l0 c s).pc).length≠0:=by unfold ac3 at hcov;simp only[cD5,decide_eq_true_eq]at hcov;omega
   exact⟨hne,bz4 hcov (by rw[R1,h14,(F3 hp.2.1 _).resolve_left hne]) hre⟩
  have hcov:=bc2 hp a1 a2 h.row e
  have hne:(rowAt p (l0 c s).pc).length≠0:=by unfold ac3 at hcov;simp only[cD5,decide_eq_true_eq]at hcov;omega
  exact⟨hne,bz4 hcov (by rw[R1,h14,(F3 hp.2.1 _).resolve_left hne]) hre⟩
 refine⟨hpc.symm,hrow.2,?_,hrow.1⟩
 show ag4 c (stM s.mem (aa2 c s) s.regs) (stM t.mem (aa2 c t) t.regs)
 rw[hi];exact g3
section
variable{c:d8}{a b:z6}
theorem bh9(hc:l5 c=true){p:List (List Bool)}(hp:U4 c p)(hb:I1 c p p.length=false)(ha:L4 c.vars.length c.arrays.length a=true)(hB:L4 c.vars.length c.arrays.length b=true)(hP:ag4 c a b):∀n:Nat,
  Q6 (J9 c (n7 a) n) (J9 c (n7 b) n)\/(J9 c (n7 a) n=J9 c (n7 b) n/\ci6 c p (v9 c (n7 a) n) (v9 c (n7 b) n))
 |0=>.inr ⟨rfl,rfl,fun _ _=>rfl,hP,hp.2.2.1⟩
 | n + 1 => by
  rcases bh9 hc hp hb ha hB hP n with h|⟨h1,h2⟩
  ·left;rw[J9,J9];exact aa6 h _ _
  rcases bG6 hc hp hb h2 (aM2 hc (av8 hc ha) n) (aM2 hc (av8 hc hB) n)with g|⟨g1,g2,g3⟩
  ·left
   rw[J9,J9,h1]
   obtain⟨p',y,z,q,r,k1,k2,k3⟩:=g
   exact⟨J9 c (n7 b) n++p',y,z,q,r,k1,by rw[k2];simp,by rw[k3];simp⟩
  right
  exact⟨by rw[J9,J9,h1,g1],g3⟩
theorem ao0(c:d8)(s:y5){n k:Nat}(h:n<=k):∃l,J9 c s k=J9 c s n++l:=by
 obtain⟨d,rfl⟩:=Nat.le.dest h
 induction d with
 |zero=>exact⟨[],an⟩
 |succ d ih=>
  obtain⟨l,h1⟩:=ih al
  exact⟨l++E2 c (v9 c s (n+d)),by rw[<-Nat.add_assoc,J9,h1,cI0]⟩
theorem br2{v w:List (Int×Int)}(h:Q6 v w):Q6 w v:=by
 obtain⟨p,a,b,q,r,h1,h2,h3⟩:=h
 exact⟨p,b,a,r,q,fun e=>h1 e.symm,h3,h2⟩
theorem bi0(hc:l5 c=true)(hv:Vf c)(ha:L4 c.vars.length c.arrays.length a=true)(hB:L4 c.vars.length c.arrays.length b=true)(hP:ag4 c a b){n:Nat}(h:aT4 c a n):(aT4 c b n/\aw7 c a n=aw7 c b n)\/Q6 (aw7 c a n) (aw7 c b n):=by
 obtain⟨p,hp,hb⟩:=hv
 by_cases hap:Q6 (aw7 c a n) (aw7 c b n)
 ·exact .inr hap
 left
 have key:∀k,k<=n+1->J9 c (n7 a) k=J9 c (n7 b) k/\V6 c (v9 c (n7 a) k)=V6 c (v9 c (n7 b) k):=by
  intro k hk
  rcases bh9 hc hp hb ha hB hP k with g|⟨g1,g2⟩
  ·exfalso
   obtain⟨l1,e1⟩:=ao0 c (n7 a) hk
   obtain⟨l2,e2⟩:=ao0 c (n7 b) hk
   apply hap
   unfold aw7
   rw[e1,e2];exact aa6 g _ _
  exact⟨g1,by unfold V6 aa2;rw[g2.pc]⟩
 exact⟨⟨h.lt,by rw[<-(key n al).2];exact h.fin,fun k hk=>by rw[<-(key k al).2];exact h.no k hk⟩,(key (n+1) (cE1 _)).1⟩
theorem bW8(hc:l5 c=true)(hv:Vf c)(ha:L4 c.vars.length c.arrays.length a=true)(hB:L4 c.vars.length c.arrays.length b=true)(hP:ag4 c a b){n k:Nat}(h:aT4 c a n)(g:aT4 c b k):aw7 c a n=aw7 c b k\/Q6 (aw7 c a n) (aw7 c b k):=by
 have hP':ag4 c b a:=⟨fun i h=>(hP.v i h).symm,fun i h=>(hP.r i h).symm⟩
 rcases Nat.le_total n k with hk|hk
 ·rcases bi0 hc hv ha hB hP h with⟨h1,h2⟩|h1
  ·rw[<-bb0 h1 g];exact .inl h2
  obtain⟨l,e⟩:=ao0 c (n7 b) (show n+1<=k+1 by omega)
  right
  have:=aa6 h1 [] l
  rw[List.append_nil]at this
  unfold aw7 at this ⊢
  rw[e];exact this
 rcases bi0 hc hv hB ha hP' g with⟨h1,h2⟩|h1
 ·rw[<-bb0 h1 h];exact .inl h2.symm
 obtain⟨l,e⟩:=ao0 c (n7 a) (show k+1<=n+1 by omega)
 right
 have:=aa6 (br2 h1) l []
 rw[List.append_nil]at this
 unfold aw7 at this ⊢
 rw[e];exact this
end
theorem bF3(xs ys:List Int)(l:List d9):j8.ok Tryz.prog ⟨28,[pA 0],[dI xs,dI ys,dN l],[dI xs,dI ys,dN l],.agg [.ref 0,.ref 1,.v (.slice none 0 0)]⟩:=by
 refine D9 8 Tryz.func28 [dI xs,dI ys,dN l] [(0,pA 0)] fun G=>?_;refine wp_seq (j7 G f8 [0,1,2,3,11] [dI xs,dI ys,dN l,.box (pL 0),.box [.v (.slice none 0 0),.v (.slice none 0 0),.v (.slice none 0 0)]] [(1,.ptr 3 0),(2,.ptr 4 0)] fun G=>b6 (wp_seq (j7 G f8 [0,1,2,4] [dI xs,dI ys,dN l,.box [.ref 0,.ref 1,.v (.slice none 0 0)]] [(2,.ptr 3 0)] fun G=>b6 (wp_ret ?_))));exact G7 G [0,1,2]
abbrev crC(f:FuncId)(c:List UInt8)(k:d8)(m m2:z6):j8:=⟨f,[.ref 0],[dY c],[dY c]++kcS k++mS m++mS m2,.tup [pA 1,mA 4,mA 6]⟩
abbrev aq2:It:=.box [.v (.slice none 0 0),.v (.slice none 0 0)]
abbrev a78:It:=.box [.v (.slice none 0 0),.v (.slice none 0 0),.v (.slice none 0 0)]
abbrev bH4(j2:Int)(r0:List It):List It:=.box [.v (.slice none 0 0),.v (.slice none 0 0),.v (.slice none 0 0)]::.box [.v (.slice none 0 0),.v (.slice none 0 0)]::.box [.v (.slice none 0 0),.v (.slice none 0 0)]::.box [.ref 5,iA j2]::r0
abbrev aT5(r0:List (Nat×AV)):List (Nat×AV):=(2,.ptr 1 0)::(3,.ptr 2 0)::(4,.ptr 3 0)::(5,.ptr 4 0)::(6,.ptr 9 0)::r0
theorem bL5(c b:List UInt8)(v u:List Int)(l:List d9)(xs:List Int)(rs:List (List Int))(m2:z6)(j2 j3 j4:Int)
  (h0:j8.ok Tryz.prog ⟨26,[.ref 0],[dY c],[dY c,.box [.ref 2,iA 0],dY b],.ptr 1 0⟩)
  (h1:j8.ok Tryz.prog ⟨27,[.ptr 0 0],[.box [.ref 1,iA 0],dY b],[.box [.ref 1,iA j2],dY b,rI v,rI u,rN l],pA 2⟩)
  (h3:j8.ok Tryz.prog ⟨29,[.ptr 0 0,pA 2],[.box [.ref 1,iA j2],dY b,dI v,dI u,dT []],[.box [.ref 1,iA j3],dY b,dI v,dI u,dT [],dI xs,dR rs],mA 5⟩)
  (h4:j8.ok Tryz.prog ⟨30,[.ptr 0 0,pA 2,mA 5,iA 1],[.box [.ref 1,iA j3],dY b,dI v,dI u,dT [],dI xs,dR rs],[.box [.ref 1,iA j4],dY b,dI v,dI u,dT [],dI xs,dR rs]++mO m2,mT 7⟩):j8.ok Tryz.prog (crC 7 c ⟨v,u,l⟩ ⟨xs,rs⟩ m2):=by
 have ho:=h0;have hju:=h1;have hme:=h3;have hse:=h4;refine D9 24 Tryz.func7 [dY c] [(0,.ref 0)] fun G=>?_;refine wp_seq (j7 G f8 [0,1,9,17] [dY c,a78,aq2,aq2] [(0,.ref 0),(2,.ptr 1 0),(3,.ptr 2 0),(4,.ptr 3 0)] fun G=>b6 (wp_seq (j7 G (x6 1 [0] ho) [0,1,2,3,12,13] [dY c,a78,aq2,aq2,.box [.ref 5,iA 0],dY b] [(2,.ptr 1 0),(3,.ptr 2 0),(4,.ptr 3 0),(5,.ptr 4 0)] fun G=>b6 (wp_seq (j7 G (x6 1 [4,5] hju) [0,1,2,3,4,5,14,15,16,22] [dY c,a78,aq2,aq2,.box [.ref 5,iA j2],dY b,.row 3 (D.ints v),.row 3 (D.ints u),.row 76 (D.instrs l),.box (pL 6)] (aT5 []) fun G=>b6 (wp_seq ?_))))));obtain⟨ρ,G⟩:=G.frz [.no,.no,.no,.no,.no,.no,.row 3,.row 3,.row 76] (dY c::(bH4 j2 [dY b,dI v,dI u,dN l,.box (pL 6)])) (aT5 []);refine j7 G (x6 1 [6,7,8] (bF3 v u l)) [0,1,2,3,4,5,6,7,8,9,26] [dY c,a78,aq2,aq2,.box [.ref 5,iA j2],dY b,dI v,dI u,dN l,.box (pL 6),.box [.ref 6,.ref 7,.v (.slice none 0 0)]] (aT5 [(7,.ptr 10 0)]) fun G=>b6 (wp_seq ?_);obtain⟨ρ,G⟩:=G.nilT 11 (.stmts []) (dY c::(bH4 j2 [dY b,dI v,dI u,dN l,.box (pL 6),.box [.ref 6,.ref 7,.tref 11]])) (aT5 [(7,.ptr 10 0)]);obtain⟨ρ,G⟩:=G.frz [.no,.no,.no,.no,.no,.no,.no,.no,.no,.no,.no,.tree] (dY c::(bH4 j2 [dY b,dI v,dI u,dN l,.box (pL 6),.box [.ref 6,.ref 7,.ref 11],dT []])) (aT5 [(7,.ptr 10 0)]);refine j7 G (x6 2 [4,5,6,7,11] hme) [0,1,2,3,4,5,6,7,8,9,10,11,28,29,36] [dY c,a78,aq2,aq2,.box [.ref 5,iA j3],dY b,dI v,dI u,dN l,.box (pL 6),.box [.ref 6,.ref 7,.ref 11],dT [],dI xs,dR rs,.box [.ref 12,.ref 13]] (aT5 [(7,.ptr 10 0),(8,.ptr 14 0)]) fun G=>b6 (wp_seq (af5 G (x6 5 [4,5,6,7,11,12,13] hse) [0,0,0,0,0,28,61,127,255] [0,1,2,3,6,7,8,12,13,55,56] [dY c,.box (pL 4),.box [.ref 7,.ref 8],.box [.ref 9,.tref 10],dI v,dI u,dN l,dI xs,dR rs,.row 3 (D.ints m2.vals),.tree (D.rows m2.arrs)] [(2,.ptr 1 0),(3,.ptr 2 0),(4,.ptr 3 0)] fun G=>b6 (wp_ret ?_)));obtain⟨ρ,G⟩:=G.frz [.no,.no,.no,.no,.no,.no,.no,.no,.no,.row 3,.tree] [dY c,.box (pL 4),.box [.ref 7,.ref 8],.box [.ref 9,.ref 10],dI v,dI u,dN l,dI xs,dR rs,dI m2.vals,dR m2.arrs] [(2,.ptr 1 0),(3,.ptr 2 0),(4,.ptr 3 0)]
 exact G7 G [0,4,5,6,7,8,9,10]
theorem cq2(b:List UInt8){j:Int}(nv na:Nat)(r0:0<=j)(r1:j+nv+4*na<=100000000):L4 nv na (mmD b j nv na)=true:=by
 obtain⟨h1,h2,h3,h4⟩:=bO6 b (j:=j) nv na r0 r1
 unfold L4
 rw[h3,h4,decide_eq_true h1,decide_eq_true h2];rfl
theorem cn3{l:Int}(h:i9 l=true)(h2:scB l=false):zB 1 l=false:=by
 rw[<-cj2 h,h]
 unfold scB at h2
 rw[h]at h2
 unfold i9 at h
 simp only[cD5,decide_eq_true_eq]at h
 have h':l=0\/l=1\/l=2\/l=3:=al
 rcases h' with rfl|rfl|rfl|rfl<;>simp at h2 ⊢
theorem bP6{l:List Int}(h:l.all i9=true)(i:Nat):i9 (l.getD i 0)=true:=by
 rw[cD7]
 cases hx:l[i]? with
 |none=>rfl
 |some x=>exact cE2.1 h x (cG0 hx)
theorem cc4{k:d8}{m m2:z6}(hc:l5 k=true)(h:Pub k.vars k.arrays m m2):ag4 k m m2:=by
 obtain⟨h1,-⟩:=v7 hc
 unfold F9 at h1
 simp only[cD5]at h1
 exact⟨fun i hi=>h.v _ (cn3 (bP6 h1.1.1.1.1 _) hi),fun i hi=>h.a _ (cn3 (bP6 h1.1.1.1.2 _) hi)⟩
theorem bT0(c:List UInt8):∃(k:d8) (m m2:z6),(k.vars.length<=1000/\k.arrays.length<=1000/\k.list.length<=400)/\L4 k.vars.length k.arrays.length m=true/\L4 k.vars.length k.arrays.length m2=true/\Pub k.vars k.arrays m m2/\j8.ok Tryz.prog (crC 7 c k m m2):=by
 have h0:=bG2 c
 have h1:=bU8 (bsD c) 0 al al
 have hj:=nc0 (bsD c)
 generalize ncD (bsD c) 0=x at*
 obtain⟨⟨v,u,l⟩,j2⟩:=x
 dsimp only at h1 hj
 have h3:=bq1 (bsD c) j2 v u [] al al al al
 have hf:=bO6 (bsD c) (j:=j2) v.length u.length al al
 have hok:=cq2 (bsD c) (j:=j2) v.length u.length al al
 have h4:=fun hi=>bh1 (bsD c) (j2+v.length+4*u.length) 1 v u [] (mmD (bsD c) j2 v.length u.length).vals (mmD (bsD c) j2 v.length u.length).arrs hf.1 hf.2.1 hf.2.2.2 al al ⟨al,al⟩ hi
 have h4:=h4 fun a ha=>by
  have:=cE2.1 hf.2.2.2 a ha
  unfold X7 at this
  rw[cD5,decide_eq_true_eq]at this
  omega
 have hs:=ca9 (bsD c) (bit:=1) ⟨v,u,[]⟩ (mmD (bsD c) j2 v.length u.length) (j:=j2+v.length+4*u.length) hf.1 hf.2.1 hf.2.2.1 hf.2.2.2 al al
 have hp:=ca8 (bsD c) ⟨v,u,[]⟩ (mmD (bsD c) j2 v.length u.length) (j2+v.length+4*u.length)
 exact⟨⟨v,u,l⟩,_,_,⟨by dsimp only;omega,by dsimp only;omega,by dsimp only;omega⟩,hok,hs,hp,bL5 c (bsD c) v u l _ _ _ j2 _ _ h0 h1 h3 h4⟩
abbrev evF(l:List (Int×Int)):List Value:=l.flatMap fun x=>[Value.int .i64 x.1,.int .i64 x.2]
theorem J0.ev{w:World}{v:Value}{l:List (Int×Int)}(h:J0 w v l.length 2 (evF l)):∃a cap,v=.slice a l.length cap/\l.length<=cap/\l.length<=9223372036854775807/\cap<=9223372036854775807/\
  ∀i (hi:i<l.length),∃b off,a=some ⟨b,off,none⟩/\b<w.heap.size/\w.cell? ⟨b,off+i*2,none⟩=some (.int .i64 l[i].1)/\w.cell? ⟨b,off+i*2+1,none⟩=some (.int .i64 l[i].2):=by
 obtain⟨a,cap,h0,h1,h2,h3,h4⟩:=h.open
 refine⟨a,cap,h0,h1,h2,h3,fun i hi=>?_⟩
 obtain⟨b,off,e,hb,hc⟩:=h4 i hi
 have c0:=hc 0 al
 have c1:=hc 1 al
 obtain⟨y0,e0,g0⟩:=by7 l (j:=0) (x:=.v (.int .i64 l[i].1)) hi (by rw[m6 hi];rfl)
 obtain⟨y1,e1,g1⟩:=by7 l (j:=1) (x:=.v (.int .i64 l[i].2)) hi (by rw[m6 hi];rfl)
 cases e0
 cases e1
 simp only[Nat.add_zero]at c0 g0
 exact⟨b,off,e,hb,by rw[c0];exact g0,by rw[c1];exact g1⟩
theorem cg0(x y:Int×Int)(w:World):(binOp .neq 39 (.agg #[.int .i64 x.1,.int .i64 x.2]) (.agg #[.int .i64 y.1,.int .i64 y.2])).run Tryz.prog w=.ok (.bool (!decide (x=y))) w:=by
 rw[run_neq_struct,run_equalIn_struct _ _ _ _ _ aj aj]
 rw[show(Tryz.prog.fieldsOf 39).toList=[⟨ "Kind",3,0,false, "", "",0⟩,⟨ "Value",3,1,false, "", "",8⟩]from by kernel_rfl]
 simp only[Prod.ext_iff]
 simp[go_sem,Op.eqFields]
 (repeat' split)<;>simp_all
def fdP(xs ys:List (Int×Int))(N:Int):Prop:=(N= -1/\xs=ys)\/∃i:Nat,N=i/\xs.take i=ys.take i/\xs[i]? ≠ys[i]?
theorem bt9{xs ys:List (Int×Int)}{i j:Nat}(h:xs.take i=ys.take i)(hj:j<i):xs[j]? =ys[j]? :=by
 have:=congrArg (·[j]?) h
 simp only[List.getElem?_take,if_pos hj]at this
 exact this
theorem cf8{xs ys:List (Int×Int)}{N M:Int}(h:fdP xs ys N)(g:fdP xs ys M):N=M:=by
 rcases h with⟨h1,h2⟩|⟨i,h1,h2,h3⟩<;>rcases g with⟨g1,g2⟩|⟨j,g1,g2,g3⟩
 ·omega
 ·subst h2;exact absurd rfl g3
 ·subst g2;exact absurd rfl h3
 rcases Nat.lt_trichotomy i j with e|e|e
 ·exact absurd (bt9 g2 e) h3
 ·omega
 exact absurd (bt9 h2 e) g3
open Classical in
noncomputable def fdI(xs ys:List (Int×Int)):Int:=if h:∃N,fdP xs ys N then Classical.choose h else 0
theorem bz0{xs ys:List (Int×Int)}{N:Int}(h:fdP xs ys N):fdI xs ys=N:=by
 have hx:∃N,fdP xs ys N:=⟨N,h⟩
 unfold fdI
 rw[dif_pos hx]
 exact cf8 (Classical.choose_spec hx) h
theorem cf7{v w:List (Int×Int)}(h:v=w\/Q6 v w):fdI v w<0\/(0<=fdI v w/\fdI v w<v.length/\fdI v w<w.length/\(v.getD (fdI v w).toNat (0,0)).1=4/\(w.getD (fdI v w).toNat (0,0)).1=4):=by
 rcases h with rfl|⟨p,y,z,q,r,h1,rfl,rfl⟩
 ·left;rw[bz0 (N:= -1) (.inl ⟨rfl,rfl⟩)];omega
 right
 have e:fdI (p++(4,y)::q) (p++(4,z)::r)=(p.length:Int):=bz0 (.inr ⟨p.length,rfl,an,by simp[h1]⟩)
 rw[e]
 refine⟨al,ah,ah,an,an⟩
theorem bS0{xs ys:List (Int×Int)}{k:Nat}(h:xs.take k=ys.take k)(h2:xs[k]? ≠ys[k]?):fdI xs ys=k:=bz0 (.inr ⟨k,rfl,h,h2⟩)
theorem bo3(v1 v2:Value)(xs ys:List (Int×Int))(w:World)(h1:J0 w v1 xs.length 2 (evF xs))(h2:J0 w v2 ys.length 2 (evF ys)):
    Calls Tryz.prog 11 #[v1,v2] w fun e w'=>e=.returned (.int .i64 (fdI xs ys))/\∃n,w'=w.drewN n:=by
  obtain⟨a1,c1,rfl,-,hm1,-,hc1⟩:=h1.ev
  obtain⟨a2,c2,rfl,-,hm2,-,hc2⟩:=h2.ev
  clear h1 h2
  go_enter Tryz.func11,Tryz.ntmps11
  go_wp2
  all_goals
    have HM:=show Hid _ from h
    clear h
    go_loopw [5,11] (fun _ i wr=>∃k:Nat,k<=xs.length/\k<=ys.length/\i=.int .i64 k/\xs.take k=ys.take k/\∃n,wr=w.drewN n) (fun _ i _=>xs.length+ys.length-(intOf i).toNat)
    case atStart=>exact⟨0,cG8 _,cG8 _,rfl,rfl,0,rfl⟩
    case round=>
      obtain⟨k,hk,hk2,rfl,ht,nd,rfl⟩:=hrel
      have HT:Hid (xs.take k=ys.take k):=ht
      clear ht
      by_cases hlt:k<xs.length
      · by_cases hlt2:k<ys.length
        · obtain⟨b1,o1,e1,hb1,i0,i1⟩:=hc1 k hlt
          obtain⟨b2,o2,e2,hb2,j0,j1⟩:=hc2 k hlt2
          have hq:=fun w=>cg0 xs[k] ys[k] w
          have HE:=show Hid _ from(fun(h:xs[k]=ys[k])=>a02 HT.out hlt hlt2 h)
          obtain⟨q,hq0⟩:∃q,q= !decide (xs[k]=ys[k]):=⟨_,rfl⟩
          rw[<-hq0]at hq
          have HQ0:=show Hid _ from hq0
          obtain⟨x,hx⟩:∃x,x=xs[k]:=⟨_,rfl⟩
          obtain⟨y,hy⟩:∃y,y=ys[k]:=⟨_,rfl⟩
          rw[<-hx]at i0 i1
          rw[<-hy]at j0 j1
          simp only[<-hx, <-hy]at hq
          subst e1 e2
          clear hc1 hc2 hq0 hx hy
          cases q
          · go_wp2
            go_quiet (fail)
            go_wp2
            refine⟨⟨k+1,al,al,by go_num,HE.out (by have:=HQ0.out;simpa using this),_,by first|rfl|exact World.drewN_drewN _ _ _⟩,by simp[intOf];omega⟩
          go_wp2
          go_quiet (fail)
          go_wp2
          go_ret
          exact⟨by rw[bS0 HT.out (by rw[cD8 hlt,cD8 hlt2];intro h;have:=HQ0.out;simp at this;exact this (Option.some.inj h))];rfl,_,by first|rfl|exact World.drewN_drewN _ _ _⟩
        clear hc1 hc2
        first
        |(exfalso;have:=HM.out;omega)
        |exact(HM.out al).elim
        | (have hd0 : decide (xs.length <= k) = false := ah
           have hd:(decide (xs.length<=k)||decide (ys.length<=k))=true:=ah
           go_wp2
           go_quiet (fail)
           go_wp2
           go_ret
           exact⟨by rw[bS0 HT.out (by rw[cD8 hlt,cF6 al];simp)];rfl,_,by first|rfl|exact World.drewN_drewN _ _ _⟩)
      clear hc1 hc2
      by_cases hlt2:k<ys.length
      · first
        |(exfalso;have:=HM.out;omega)
        |exact(HM.out al).elim
        | (have hd0 : decide (xs.length <= k) = true := ah
           have hd:(decide (xs.length<=k)||decide (ys.length<=k))=true:=ah
           go_wp2
           go_quiet (fail)
           go_wp2
           go_ret
           exact⟨by rw[bS0 HT.out (by rw[cF6 al,cD8 hlt2];simp)];rfl,_,by first|rfl|exact World.drewN_drewN _ _ _⟩)
      first
      |(exfalso;have:=HM.out;omega)
      |exact(HM.out al).elim
      | (go_wp2
         go_ret
         exact⟨by rw[bz0 (.inl ⟨rfl,a92 HT.out al al⟩)];rfl,_,by first|rfl|exact World.drewN_drewN _ _ _⟩)
theorem bh5(l m:List (Int×Int)):j8.ok Tryz.prog (P1 11 [.ref 0,.ref 1] [.dat (.events l),.dat (.events m)] (iA (fdI l m))):=
 at2 fun φ w ρ h=>(bo3 _ _ l m w (A6.row (h 0 _ rfl)) (A6.row (h 1 _ rfl))).mono fun e w' ⟨h1,n,h2⟩=>⟨h1,h2▸below_drewN (Below.refl _ _) n⟩
theorem ch9(l e:List (Int×Int))(pc:Int)(h1:l.length<=1000000)(h2:e.length<=1000000):j8.ok Tryz.prog ⟨85,[iA pc,.ref 2,.ptr 0 0],[.box [.ref 1],.row 39 (.events l),.dat (.events e)],[.box [.ref 3],.dead,.dat (.events e),.row 39 (.events (l++e))],.tup []⟩:=by
 refine D9 8 Tryz.func85 [.box [.ref 1],.row 39 (D.events l),dV e] [(0,iA pc),(1,.ref 2),(2,.ptr 0 0)] fun G=>?_;refine R9 G f8 [0,1,2,19] [.box [.ref 3],.dead,dV e,.row 39 (D.events (l++e))] [] (aP (l.length+e.length) 16 []) (aK al cF1) fun G=>?_;exact cn8 G (rg 4)
structure br6(c:d8)(s:y5)(n:Nat)(b:Bool):Prop where
 le:n<=20000
 no:∀k,k+1<n->V6 c (v9 c s k)=false
 yes:b=true->∃k,n=k+1/\V6 c (v9 c s k)=true
 non:b=false->n=20000/\∀k,k<20000->V6 c (v9 c s k)=false
theorem cg1{c:d8}{s:y5}{n k:Nat}{b:Bool}(h:br6 c s n b)(hk:k<20000)(hp:∀j,j<k->V6 c (v9 c s j)=false)(he:V6 c (v9 c s k)=true):n=k+1/\b=true:=by
 cases b with
 |false=>have:=(h.non rfl).2 k hk;rw[he]at this;cases this
 |true=>
  obtain⟨j,h1,h2⟩:=h.yes rfl
  refine⟨?_,rfl⟩
  rcases Nat.lt_trichotomy j k with h3|h3|h3
  ·rw[hp j h3]at h2;cases h2
  ·omega
  have:=h.no k al;rw[he]at this;cases this
theorem cg2{c:d8}{s:y5}{n:Nat}{b:Bool}(h:br6 c s n b)(hp:∀j,j<20000->V6 c (v9 c s j)=false):n=20000/\b=false:=by
 cases b with
 |false=>exact⟨(h.non rfl).1,rfl⟩
 |true=>
  obtain⟨j,h1,h2⟩:=h.yes rfl
  have:=hp j (by have:=h.le;omega)
  rw[h2]at this;cases this
theorem cg4{c:d8}{s:y5}(h:(c.list.getD s.pc.toNat cD4).op=13):V6 c s=true:=decide_eq_true h
theorem cg3{c:d8}{s:y5}(h:¬(c.list.getD s.pc.toNat cD4).op=13):V6 c s=false:=decide_eq_false h
theorem b10{c:d8}{s:y5}{k:Nat}(hp:∀j,j<k->V6 c (v9 c s j)=false)(h:¬(c.list.getD (v9 c s k).pc.toNat cD4).op=13):∀j,j<k+1->V6 c (v9 c s j)=false:=by
 intro j hj
 by_cases e:j=k
 ·subst e;exact cg3 h
 exact hp j al
theorem bE2{c:d8}{s:y5}{n k:Nat}{b:Bool}(h:br6 c s n b)(hp:∀j,j<k->V6 c (v9 c s j)=false)(h1:k<=20000)(h2:20000<=k):v9 c s n=v9 c s k/\J9 c s n=J9 c s k/\b=false:=by
 obtain rfl:k=20000:=al
 obtain⟨rfl,rfl⟩:=cg2 h hp
 exact⟨rfl,rfl,rfl⟩
theorem bE1{c:d8}{s:y5}{n k:Nat}{b:Bool}(h:br6 c s n b)(hp:∀j,j<k->V6 c (v9 c s j)=false)(hk:k<20000)(he:(c.list.getD (v9 c s k).pc.toNat cD4).op=13):v9 c s n=l0 c (v9 c s k)/\J9 c s n=J9 c s k++E2 c (v9 c s k)/\b=true:=by
 obtain⟨rfl,rfl⟩:=cg1 h hk hp (cg4 he)
 exact⟨rfl,rfl,rfl⟩
abbrev bs6(c:d8)(s:y5)(n:Nat):List It:=[.box [iA (v9 c s n).pc,.ref 1,.ref 2,.tref 3],.row 3 (D.ints (v9 c s n).regs),.row 3 (D.ints (v9 c s n).mem.vals),.tree (D.rows (v9 c s n).mem.arrs),dI c.vars,dI c.arrays,dN c.list,.box [.ref 9],.dead,.row 39 (D.events (J9 c s n))]
abbrev aT7(r0:List (Nat×AV)):List (Nat×AV):=(1,.ptr 0 0)::(2,.fn 85 [.ptr 7 0])::(3,.ptr 9 0)::(6,bA false)::r0
abbrev bH9(c:d8)(s:y5)(r0:List It):List It:=.box [iA s.pc,.ref 1,.ref 2,.tref 3]::.row 3 (D.ints s.regs)::.row 3 (D.ints s.mem.vals)::.tree (D.rows s.mem.arrs)::dI c.vars::dI c.arrays::dN c.list::r0
theorem aX9(c:d8)(s:y5)(n:Nat)(b:Bool)(hc:l5 c=true)(hs:Z4 c s=true)(hE:br6 c s n b):j8.ok Tryz.prog ⟨84,[pA 4,.ptr 0 0,.fn 85 [.ptr 7 0]],stI s++kcS c++[.box [.ref 8],.row 39 (.events [])],stI (v9 c s n)++kcS c++[.box [.ref 9],.dead,.row 39 (.events (J9 c s n))],bA b⟩:=by
  refine D9 28 Tryz.func84 (bH9 c s [.box [.ref 8],.row 39 (D.events [])]) [(0,pA 4),(1,.ptr 0 0),(2,.fn 85 [.ptr 7 0])] fun G=>?_;refine wp_seq (j7 G f8 (rg 10) (bH9 c s [.box [.ref 8],.row 39 (D.events []),.box (pL 4)]) (aT7 []) fun G=>b6 (wp_seq (wp_seq (C6 G f8 (aT7 [(8,iA 0)]) fun G=>b6 (wp_block ?_)))));obtain⟨ρ,G⟩:=G.shift 8 10 (bH9 c s [.box [.ref 10],.dead,.box (pL 4),.row 39 (D.events [])]) (aT7 [(8,iA 0)]);refine t9 (κ:=Nat) (fun k=>k<=20000/\∀j,j<k->V6 c (v9 c s j)=false) (fun k=>20000-k) (fun k=>[.box [iA (v9 c s k).pc,.ref 1,.ref 2,.tref 3],.row 3 (.ints (v9 c s k).regs),.row 3 (.ints (v9 c s k).mem.vals),.tree (.rows (v9 c s k).mem.arrs),dI c.vars,dI c.arrays,dN c.list,.box [.ref 10],.dead,.box (pL 4),.row 39 (.events (J9 c s k))]) (fun k=>(aT7 [(8,iA k)])) 0 (by simp[hc,hs]) (x7.at G _ _) ?_;clear G;intro k ρ a w hp G;replace G:=x7.at G [.box [iA (v9 c s k).pc,.ref 1,.ref 2,.tref 3],.row 3 (D.ints (v9 c s k).regs),.row 3 (D.ints (v9 c s k).mem.vals),.tree (D.rows (v9 c s k).mem.arrs),dI c.vars,dI c.arrays,dN c.list,.box [.ref 10],.dead,.box (pL 4),.row 39 (D.events (J9 c s k))] (aT7 [(8,iA k)]);have hpc:=ao3 (aM2 hc hs k);have hel:=bb2 c s k;have hen:=aV2 c (v9 c s k);refine wp_seq (l6 G f8 [(9,bA (decide ((k:Int)<20000)))] fun G=>b6 (wp_seq (rcD G (fun h0 q0=>?_) fun h0 q0=>?_)))
  · refine wp_exit (t4 (t4 (t3 (b6 (wp_seq (j7 G f8 [0,1,2,3,4,5,6,7,8,10] [.box [iA (v9 c s k).pc,.ref 1,.ref 2,.tref 3],.row 3 (D.ints (v9 c s k).regs),.row 3 (D.ints (v9 c s k).mem.vals),.tree (D.rows (v9 c s k).mem.arrs),dI c.vars,dI c.arrays,dN c.list,.box [.ref 9],.dead,.row 39 (D.events (J9 c s k))] [(6,bA false)] fun G=>b6 (wp_ret ?_)))))));exact I8 false G (rg 10) ((bE2 hE hp.2 al al).2.2) (by show _=mR (rg 10) (bs6 c s n);unfold bs6;have e1:((v9 c s n).pc:Int)=((v9 c s k).pc):=(by rw[(bE2 hE hp.2 al al).1]);have e2:((v9 c s n).regs:List Int)=((v9 c s k).regs):=(by rw[(bE2 hE hp.2 al al).1]);have e3:((v9 c s n).mem.vals:List Int)=((v9 c s k).mem.vals):=(by rw[(bE2 hE hp.2 al al).1]);have e4:((v9 c s n).mem.arrs:List (List Int))=((v9 c s k).mem.arrs):=(by rw[(bE2 hE hp.2 al al).1]);have e5:(J9 c s n:List (Int×Int))=(J9 c s k):=(by rw[(bE2 hE hp.2 al al).2.1]);(first|rw[e1,e2,e3,e4,e5]|simp only[e1,e2,e3,e4,e5])<;>rfl)
  refine wp_skip (b6 (wp_seq (wp_block (wp_seq (l6 G f8 [(7,iA (v9 c s k).pc)] fun G=>b6 (wp_seq (j7 G (I7 (y7 4 (rg 7) (ch8 c (v9 c s k) ai (aM2 hc hs _)) (y7 5 [7,10,43] (j8.lend (ch9 (J9 c s k) (E2 c (v9 c s k)) ((v9 c s k).pc) al al) [.no,.no,.row 39]) I6)) fz []) [0,1,2,3,4,5,6,7,8,9,51] [.box [iA (l0 c (v9 c s k)).pc,.ref 1,.ref 2,.tref 3],.row 3 (D.ints (l0 c (v9 c s k)).regs),.row 3 (D.ints (l0 c (v9 c s k)).mem.vals),.tree (D.rows (l0 c (v9 c s k)).mem.arrs),dI c.vars,dI c.arrays,dN c.list,.box [.ref 10],.dead,.box (pL 4),.row 39 (D.events (J9 c s k++E2 c (v9 c s k)))] (aT7 [(7,iA (v9 c s k).pc),(8,iA k)]) fun G=>b6 (wp_seq (H0 G f8 [(26,bA ((c.list.getD (v9 c s k).pc.toNat cD4).op==13))] (iX ((v9 c s k).pc) ((v9 c s k).pc.toNat) c.list.length []) (iK al cF1) fun G=>b6 (V3 G (fun h1 q1=>?_) fun h1 q1=>?_))))))))))
  · refine wp_skip (m8 (b6 (H0 G f8 [(8,iA ((k:Int)+1))] [wO ((k:Int)+1)] (o1 al) fun G=>b6 ?_)));exact P7 G (k+1) (⟨al,b10 hp.2 al⟩) al (rg 11)
  refine wp_seq (l6 G f8 [(6,bA true)] fun G=>b6 (wp_ret (A5 (l7 (l7 (A5 (l7 ?_)))))));exact I8 true G [0,1,2,3,4,5,6,7,8,10] ((bE1 hE hp.2 al ab).2.2) (by show _=mR [0,1,2,3,4,5,6,7,8,10] (bs6 c s n);unfold bs6;have e1:((v9 c s n).pc:Int)=((l0 c (v9 c s k)).pc):=(by rw[(bE1 hE hp.2 al ab).1]);have e2:((v9 c s n).regs:List Int)=((l0 c (v9 c s k)).regs):=(by rw[(bE1 hE hp.2 al ab).1]);have e3:((v9 c s n).mem.vals:List Int)=((l0 c (v9 c s k)).mem.vals):=(by rw[(bE1 hE hp.2 al ab).1]);have e4:((v9 c s n).mem.arrs:List (List Int))=((l0 c (v9 c s k)).mem.arrs):=(by rw[(bE1 hE hp.2 al ab).1]);have e5:(J9 c s n:List (Int×Int))=(J9 c s k++E2 c (v9 c s k)):=(by rw[(bE1 hE hp.2 al ab).2.1]);(first|rw[e1,e2,e3,e4,e5]|simp only[e1,e2,e3,e4,e5])<;>rfl)
theorem bB2(m:z6)(hx:m.vals.length<=1048576)(hr:m.arrs.length<=1048576)(hi:∀r∈m.arrs,r.length<=1048576):j8.ok Tryz.prog ⟨124,[mA 0],mS m,mS m++[.row 3 (.ints (cD6 14 0)),.row 3 (.ints m.vals),.tree (.rows m.arrs)],.agg [iA 0,.ref 2,.ref 3,.tref 4]⟩:=by
 have how:=cl5 m hx hr hi;refine D9 7 Tryz.func124 [dI m.vals,dR m.arrs] [(0,.agg [.ref 0,.ref 1])] fun G=>?_;refine wp_seq (j7 G f8 [0,1,2,10] [dI m.vals,dR m.arrs,.box [.ref 0,.ref 1],.box [iA 0,.v (.slice none 0 0),.v (.slice none 0 0),.v (.slice none 0 0)]] [(1,.ptr 2 0),(2,.ptr 3 0)] fun G=>b6 (wp_seq (K7 G (x6 2 [0,1] how) [0,0,2,7,15] [0,1,3,4,20,21] [dI m.vals,dR m.arrs,.box [iA 0,.ref 3,.ref 4,.tref 5],.row 3 (D.ints (cD6 (Int.toNat 14) 0)),.row 3 (D.ints m.vals),.tree (D.rows m.arrs)] [(2,.ptr 2 0)] [(14:Int)=14,(0:Int)<=14,(↑(8:Nat):Int)*14<=281474976710656,(14:Int)<=9223372036854775807,((.int .i64 (0:Int)):Value)=(.int .i64 (0:Int))] ⟨aj,al,al,al,aj,cF1⟩ fun G=>b6 (wp_ret ?_))));exact G7 G [0,1,3,4,5]
def ssD(c:d8)(m:z6):y5:=if(l5 c&&L4 c.vars.length c.arrays.length m)=true then n7 m else⟨0,[],⟨[],[]⟩⟩
theorem bu7{c:d8}{m:z6}(h:l5 c=false):ssD c m=⟨0,[],⟨[],[]⟩⟩/\(l5 c&&L4 c.vars.length c.arrays.length m)=false:=by
 have:(l5 c&&L4 c.vars.length c.arrays.length m)=false:=by rw[h];rfl
 exact⟨by unfold ssD;rw[this];rfl,this⟩
theorem bu6{c:d8}{m:z6}(h:L4 c.vars.length c.arrays.length m=false):ssD c m=⟨0,[],⟨[],[]⟩⟩/\(l5 c&&L4 c.vars.length c.arrays.length m)=false:=by
 have:(l5 c&&L4 c.vars.length c.arrays.length m)=false:=by rw[h];simp
 exact⟨by unfold ssD;rw[this];rfl,this⟩
theorem bB4{c:d8}{m:z6}(h:l5 c=true)(h2:L4 c.vars.length c.arrays.length m=true):ssD c m=n7 m/\(l5 c&&L4 c.vars.length c.arrays.length m)=true:=by
 have:(l5 c&&L4 c.vars.length c.arrays.length m)=true:=by rw[h,h2];rfl
 exact⟨by unfold ssD;rw[this];rfl,this⟩
abbrev aU0(c:d8)(m:z6)(T:y5):List It:=[dI c.vars,dI c.arrays,dN c.list,dI m.vals,dR m.arrs,.row 3 (D.ints T.regs),.row 3 (D.ints T.mem.vals),.tree (D.rows T.mem.arrs)]
abbrev bI2:It:=.box [iA 0,.v (.slice none 0 0),.v (.slice none 0 0),.v (.slice none 0 0)]
abbrev aC8(c:d8)(m:z6)(r0:List It):List It:=dI c.vars::dI c.arrays::dN c.list::dI m.vals::dR m.arrs::.box [.ref 3,.ref 4]::r0
abbrev aq1(r0:List (Nat×AV)):List (Nat×AV):=(3,.ptr 5 0)::(4,.ptr 6 0)::(5,bA false)::r0
theorem ab5(c:d8)(m:z6)(T:y5)(hT:ssD c m=T)(hx:m.vals.length<=1048576)(hr:m.arrs.length<=1048576)(hi:∀r∈m.arrs,r.length<=1048576):j8.ok Tryz.prog ⟨83,[pA 0,mA 3],kcS c++mS m,kcS c++mS m++smO T,.tup [.agg [iA T.pc,.ref 5,.ref 6,.tref 7],bA (l5 c&&L4 c.vars.length c.arrays.length m)]⟩:=by
  have hcv:=cv3 c;have him:=bV3 c m;have hst:=bB2 m hx hr hi;refine D9 21 Tryz.func83 [dI c.vars,dI c.arrays,dN c.list,dI m.vals,dR m.arrs] [(0,pA 0),(1,.agg [.ref 3,.ref 4])] fun G=>?_;refine wp_seq (j7 G f8 [0,1,2,3,4,5,13,21] [dI c.vars,dI c.arrays,dN c.list,dI m.vals,dR m.arrs,.box (pL 0),.box [.ref 3,.ref 4],bI2] [(2,.ptr 5 0),(3,.ptr 6 0),(4,.ptr 7 0),(5,bA false)] fun G=>b6 (wp_seq (wp_seq ?_)));cases h0:(!l5 c)
  ·
   have q0:(l5 c)=true:=(Eq.mp (cG1 _) h0);refine j7 G (I7 (y7 1 [0,1,2] hcv (y7 9 [0,1,3,4] him I6)) (fc h0 fz) (us [(4,10,0),(1011,1011,0)])) [0,1,2,3,4,6,7] (aC8 c m [bI2]) (aq1 [(17,.v (.bool !L4 c.vars.length c.arrays.length m))]) fun G=>b6 ?_;cases h1:(!L4 c.vars.length c.arrays.length m)
   · have q1:(L4 c.vars.length c.arrays.length m)=true:=(Eq.mp (cG1 _) h1);refine rF G _ h1 (wp_skip (b6 (wp_seq (j7 G (x6 1 [3,4] hst) [0,1,2,3,4,6,15,16,17] [dI c.vars,dI c.arrays,dN c.list,dI m.vals,dR m.arrs,.box [iA 0,.ref 6,.ref 7,.tref 8],.row 3 (D.ints (cD6 14 0)),.row 3 (D.ints m.vals),.tree (D.rows m.arrs)] [(4,.ptr 5 0),(5,bA true)] fun G=>b6 (wp_ret ?_)))));exact T9 (.tup [.agg [iA 0,.ref 6,.ref 7,.tref 8],bA true]) G [0,1,2,3,4,6,7,8] (by have e1:(T.pc:Int)=(0):=(by rw[<-hT,(bB4 ab ab).1];rfl);have e2:(l5 c&&L4 c.vars.length c.arrays.length m:Bool)=(true):=(by simp[h0,q0,h1,q1]);(first|rw[e1,e2]|simp only[e1,e2])<;>rfl) (by show _=mR [0,1,2,3,4,6,7,8] (aU0 c m T);unfold aU0;rw[<-hT,(bB4 ab ab).1]<;>rfl)
   have q1:(L4 c.vars.length c.arrays.length m)=false:=(Eq.mp (cF7 _) h1);refine rT G _ h1 (wp_seq (C6 G f8 (aq1 []) fun G=>b6 (wp_ret (l7 ?_))));obtain⟨ρ,G⟩:=G.nil 7 3 (.ints []) 1 (aC8 c m [.box [iA 0,.ref 7,.v (.slice none 0 0),.v (.slice none 0 0)]]) (aq1 []);obtain⟨ρ,G⟩:=G.nil 8 3 (.ints []) 1 (aC8 c m [.box [iA 0,.ref 7,.ref 8,.v (.slice none 0 0)],.row 3 (D.ints [])]) (aq1 []);obtain⟨ρ,G⟩:=G.nilT 9 (.rows []) (aC8 c m [.box [iA 0,.ref 7,.ref 8,.tref 9],.row 3 (D.ints []),.row 3 (D.ints [])]) (aq1 []);exact T9 (.tup [.agg [iA 0,.ref 7,.ref 8,.tref 9],bA false]) G [0,1,2,3,4,7,8,9] (by have e1:(T.pc:Int)=(0):=(by rw[<-hT,(bu6 ab).1]);have e2:(l5 c&&L4 c.vars.length c.arrays.length m:Bool)=(false):=(by simp[h0,q0,h1,q1]);(first|rw[e1,e2]|simp only[e1,e2])<;>rfl) (by show _=mR [0,1,2,3,4,7,8,9] (aU0 c m T);unfold aU0;have e1:(T.regs:List Int)=([]):=(by rw[<-hT,(bu6 ab).1]);have e2:(T.mem.vals:List Int)=([]):=(by rw[<-hT,(bu6 ab).1]);have e3:(T.mem.arrs:List (List Int))=([]):=(by rw[<-hT,(bu6 ab).1]);(first|rw[e1,e2,e3]|simp only[e1,e2,e3])<;>rfl)
  have q0:(l5 c)=false:=(Eq.mp (cF7 _) h0);refine j7 G (I7 (y7 1 [0,1,2] hcv I6) (fc h0 fz) (us [(4,10,0),(1011,1011,0)])) [0,1,2,3,4,6,7] (aC8 c m [bI2]) (aq1 [(17,bA true)]) fun G=>b6 (rT G true aj (wp_seq (C6 G f8 (aq1 []) fun G=>b6 (wp_ret (l7 ?_)))));obtain⟨ρ,G⟩:=G.nil 7 3 (.ints []) 1 (aC8 c m [.box [iA 0,.ref 7,.v (.slice none 0 0),.v (.slice none 0 0)]]) (aq1 []);obtain⟨ρ,G⟩:=G.nil 8 3 (.ints []) 1 (aC8 c m [.box [iA 0,.ref 7,.ref 8,.v (.slice none 0 0)],.row 3 (D.ints [])]) (aq1 []);obtain⟨ρ,G⟩:=G.nilT 9 (.rows []) (aC8 c m [.box [iA 0,.ref 7,.ref 8,.tref 9],.row 3 (D.ints []),.row 3 (D.ints [])]) (aq1 []);exact T9 (.tup [.agg [iA 0,.ref 7,.ref 8,.tref 9],bA false]) G [0,1,2,3,4,7,8,9] (by have e1:(T.pc:Int)=(0):=(by rw[<-hT,(bu7 ab).1]);have e2:(l5 c&&L4 c.vars.length c.arrays.length m:Bool)=(false):=(by rw[q0];rfl);(first|rw[e1,e2]|simp only[e1,e2])<;>rfl) (by show _=mR [0,1,2,3,4,7,8,9] (aU0 c m T);unfold aU0;have e1:(T.regs:List Int)=([]):=(by rw[<-hT,(bu7 ab).1]);have e2:(T.mem.vals:List Int)=([]):=(by rw[<-hT,(bu7 ab).1]);have e3:(T.mem.arrs:List (List Int))=([]):=(by rw[<-hT,(bu7 ab).1]);(first|rw[e1,e2,e3]|simp only[e1,e2,e3])<;>rfl)
abbrev rnO(s:y5):List It:=[.box [iA s.pc,.ref 6,.ref 7,.tref 8],.row 3 (.ints s.regs),.row 3 (.ints s.mem.vals),.tree (.rows s.mem.arrs)]
abbrev bH8(c:d8)(m:z6)(r0:List It):List It:=dI c.vars::dI c.arrays::dN c.list::dI m.vals::dR m.arrs::.box (pL 0)::.row 3 (D.ints (n7 m).regs)::.row 3 (D.ints (n7 m).mem.vals)::.tree (D.rows (n7 m).mem.arrs)::.box [iA (n7 m).pc,.ref 6,.ref 7,.tref 8]::r0
abbrev bH7(c:d8)(m:z6)(r0:List (Nat×AV)):List (Nat×AV):=(2,.ptr 5 0)::(4,.v (.pointer none))::(5,.v (.slice none 0 0))::(6,bA false)::(7,.ptr 9 0)::(8,bA (l5 c&&L4 c.vars.length c.arrays.length m))::r0
theorem cb2(c:d8)(m:z6)(n:Nat)(hc:l5 c=true)(hm:L4 c.vars.length c.arrays.length m=true)(hE:br6 c (n7 m) n true)(hx:m.vals.length<=1048576)(hr:m.arrs.length<=1048576)(hi:∀r∈m.arrs,r.length<=1048576):j8.ok Tryz.prog ⟨37,[pA 0,mA 3],kcS c++mS m,kcS c++mS m++rnO (v9 c (n7 m) n)++[.row 39 (.events (J9 c (n7 m) n))],.tup [.ptr 5 0,.ref 9,bA true]⟩:=by
 have hst:=ab5 c m (n7 m) (bB4 hc hm).1 hx hr hi;have hex:=aX9 c (n7 m) n true hc (av8 hc hm) hE;refine D9 24 Tryz.func37 [dI c.vars,dI c.arrays,dN c.list,dI m.vals,dR m.arrs] [(0,pA 0),(1,.agg [.ref 3,.ref 4])] fun G=>?_;have hok:(l5 c&&L4 c.vars.length c.arrays.length m)=true:=(bB4 hc hm).2;refine wp_seq (j7 G f8 [0,1,2,3,4,5,13] [dI c.vars,dI c.arrays,dN c.list,dI m.vals,dR m.arrs,.box (pL 0),.box [.ref 3,.ref 4]] [(2,.ptr 5 0),(3,.ptr 6 0),(4,.v (.pointer none)),(5,.v (.slice none 0 0)),(6,bA false)] fun G=>b6 (wp_seq (j7 G (x6 2 (rg 5) hst) [0,1,2,3,4,5,23,24,25,55] (bH8 c m []) (bH7 c m []) fun G=>b6 (wp_seq (wp_seq (l6 G f8 [(17,.v (.bool !(l5 c&&L4 c.vars.length c.arrays.length m)))] fun G=>b6 (rF G (!(l5 c&&L4 c.vars.length c.arrays.length m)) (by rw[hok];rfl) (wp_skip (b6 (wp_seq (j7 G f8 (rg 11) (bH8 c m [.box [.v (.slice none 0 0)]]) (bH7 c m [(9,.ptr 10 0)]) fun G=>b6 (wp_seq ?_))))))))))));obtain⟨ρ,G⟩:=G.nil 11 39 (.events []) 6 (bH8 c m [.box [.ref 11]]) (bH7 c m [(9,.ptr 10 0)]);refine j7 G (x6 2 [9,6,7,8,0,1,2,10,11] hex) [0,1,2,3,4,6,7,8,9,10,28] [dI c.vars,dI c.arrays,dN c.list,dI m.vals,dR m.arrs,.row 3 (D.ints (v9 c (n7 m) n).regs),.row 3 (D.ints (v9 c (n7 m) n).mem.vals),.tree (D.rows (v9 c (n7 m) n).mem.arrs),.box [iA (v9 c (n7 m) n).pc,.ref 5,.ref 6,.tref 7],.box [.ref 10],.row 39 (D.events (J9 c (n7 m) n))] [(4,.v (.pointer none)),(5,.v (.slice none 0 0)),(6,bA false),(7,.ptr 8 0),(8,bA true),(9,.ptr 9 0)] fun G=>b6 (wp_seq (wp_seq (l6 G f8 [(22,bA false)] fun G=>b6 (rF G false aj (wp_skip (b6 (wp_seq (af5 G f8 [0,0,3,7] [0,1,2,3,4,5,6,7,8,10] [dI c.vars,dI c.arrays,dN c.list,dI m.vals,dR m.arrs,.row 3 (D.ints (v9 c (n7 m) n).regs),.row 3 (D.ints (v9 c (n7 m) n).mem.vals),.tree (D.rows (v9 c (n7 m) n).mem.arrs),.box [iA (v9 c (n7 m) n).pc,.ref 5,.ref 6,.tref 7],.row 39 (D.events (J9 c (n7 m) n))] [(4,.ptr 8 0),(5,.ref 9),(6,bA true)] fun G=>b6 (wp_ret ?_)))))))));exact G7 G [0,1,2,3,4,8,5,6,7,9]
theorem bZ4(c:d8)(m:z6)(hok:(l5 c&&L4 c.vars.length c.arrays.length m)=false)(hx:m.vals.length<=1048576)(hr:m.arrs.length<=1048576)(hi:∀r∈m.arrs,r.length<=1048576):j8.ok Tryz.prog ⟨37,[pA 0,mA 3],kcS c++mS m,kcS c++mS m,.tup [.v (.pointer none),.v (.slice none 0 0),bA false]⟩:=by
 have hst:=ab5 c m (ssD c m) rfl hx hr hi;refine D9 24 Tryz.func37 [dI c.vars,dI c.arrays,dN c.list,dI m.vals,dR m.arrs] [(0,pA 0),(1,.agg [.ref 3,.ref 4])] fun G=>?_;refine wp_seq (j7 G f8 [0,1,2,3,4,5,13] [dI c.vars,dI c.arrays,dN c.list,dI m.vals,dR m.arrs,.box (pL 0),.box [.ref 3,.ref 4]] [(2,.ptr 5 0),(3,.ptr 6 0),(4,.v (.pointer none)),(5,.v (.slice none 0 0)),(6,bA false)] fun G=>b6 (wp_seq (j7 G (x6 2 (rg 5) hst) [0,1,2,3,4,5,23,24,25,55] [dI c.vars,dI c.arrays,dN c.list,dI m.vals,dR m.arrs,.box (pL 0),.row 3 (D.ints (ssD c m).regs),.row 3 (D.ints (ssD c m).mem.vals),.tree (D.rows (ssD c m).mem.arrs),.box [iA (ssD c m).pc,.ref 6,.ref 7,.tref 8]] [(2,.ptr 5 0),(4,.v (.pointer none)),(5,.v (.slice none 0 0)),(6,bA false),(7,.ptr 9 0),(8,bA (l5 c&&L4 c.vars.length c.arrays.length m))] fun G=>b6 (wp_seq (wp_seq (l6 G f8 [(17,.v (.bool !(l5 c&&L4 c.vars.length c.arrays.length m)))] fun G=>b6 (rT G (!(l5 c&&L4 c.vars.length c.arrays.length m)) (by rw[hok];rfl) (wp_seq (l6 G f8 [] fun G=>b6 (wp_ret (l7 ?_)))))))))));exact G7 G (rg 5)
abbrev bH6(c:d8)(m:z6)(r0:List It):List It:=dI c.vars::dI c.arrays::dN c.list::dI m.vals::dR m.arrs::.box (pL 0)::.row 3 (D.ints (n7 m).regs)::.row 3 (D.ints (n7 m).mem.vals)::.tree (D.rows (n7 m).mem.arrs)::.box [iA (n7 m).pc,.ref 6,.ref 7,.tref 8]::r0
abbrev bH5(c:d8)(m:z6)(r0:List (Nat×AV)):List (Nat×AV):=(2,.ptr 5 0)::(4,.v (.pointer none))::(5,.v (.slice none 0 0))::(6,bA false)::(7,.ptr 9 0)::(8,bA (l5 c&&L4 c.vars.length c.arrays.length m))::r0
theorem bZ3(c:d8)(m:z6)(hc:l5 c=true)(hm:L4 c.vars.length c.arrays.length m=true)(hE:br6 c (n7 m) 20000 false)(hx:m.vals.length<=1048576)(hr:m.arrs.length<=1048576)(hi:∀r∈m.arrs,r.length<=1048576):j8.ok Tryz.prog ⟨37,[pA 0,mA 3],kcS c++mS m,kcS c++mS m,.tup [.v (.pointer none),.v (.slice none 0 0),bA false]⟩:=by
 have hst:=ab5 c m (n7 m) (bB4 hc hm).1 hx hr hi;have hex:=aX9 c (n7 m) 20000 false hc (av8 hc hm) hE;refine D9 24 Tryz.func37 [dI c.vars,dI c.arrays,dN c.list,dI m.vals,dR m.arrs] [(0,pA 0),(1,.agg [.ref 3,.ref 4])] fun G=>?_;have hok:(l5 c&&L4 c.vars.length c.arrays.length m)=true:=(bB4 hc hm).2;refine wp_seq (j7 G f8 [0,1,2,3,4,5,13] [dI c.vars,dI c.arrays,dN c.list,dI m.vals,dR m.arrs,.box (pL 0),.box [.ref 3,.ref 4]] [(2,.ptr 5 0),(3,.ptr 6 0),(4,.v (.pointer none)),(5,.v (.slice none 0 0)),(6,bA false)] fun G=>b6 (wp_seq (j7 G (x6 2 (rg 5) hst) [0,1,2,3,4,5,23,24,25,55] (bH6 c m []) (bH5 c m []) fun G=>b6 (wp_seq (wp_seq (l6 G f8 [(17,.v (.bool !(l5 c&&L4 c.vars.length c.arrays.length m)))] fun G=>b6 (rF G (!(l5 c&&L4 c.vars.length c.arrays.length m)) (by rw[hok];rfl) (wp_skip (b6 (wp_seq (j7 G f8 (rg 11) (bH6 c m [.box [.v (.slice none 0 0)]]) (bH5 c m [(9,.ptr 10 0)]) fun G=>b6 (wp_seq ?_))))))))))));obtain⟨ρ,G⟩:=G.nil 11 39 (.events []) 6 (bH6 c m [.box [.ref 11]]) (bH5 c m [(9,.ptr 10 0)]);refine j7 G (x6 2 [9,6,7,8,0,1,2,10,11] hex) [0,1,2,3,4,6,7,8,9,10,28] [dI c.vars,dI c.arrays,dN c.list,dI m.vals,dR m.arrs,.row 3 (D.ints (v9 c (n7 m) 20000).regs),.row 3 (D.ints (v9 c (n7 m) 20000).mem.vals),.tree (D.rows (v9 c (n7 m) 20000).mem.arrs),.box [iA (v9 c (n7 m) 20000).pc,.ref 5,.ref 6,.tref 7],.box [.ref 10],.row 39 (D.events (J9 c (n7 m) 20000))] [(4,.v (.pointer none)),(5,.v (.slice none 0 0)),(6,bA false),(7,.ptr 8 0),(8,bA false),(9,.ptr 9 0)] fun G=>b6 (wp_seq (wp_seq (l6 G f8 [(22,bA true)] fun G=>b6 (rT G true aj (wp_seq (l6 G f8 [] fun G=>b6 (wp_ret (l7 ?_))))))));exact G7 G (rg 5)
abbrev rcC(c:d8)(m x:z6)(v:List (Int×Int))(b:Bool):j8:=⟨10,[pA 0,mA 3],kcS c++mS m,kcS c++mS m++mO x++[.row 39 (.events v)],.tup [mT 5,.ref 7,bA b]⟩
theorem bl2(c:d8)(m:z6)(s:y5)(v:List (Int×Int))(hran:j8.ok Tryz.prog ⟨37,[pA 0,mA 3],kcS c++mS m,kcS c++mS m++rnO s++[.row 39 (.events v)],.tup [.ptr 5 0,.ref 9,bA true]⟩):j8.ok Tryz.prog (rcC c m s.mem v true):=by
 have hrn:=hran;refine D9 25 Tryz.func10 [dI c.vars,dI c.arrays,dN c.list,dI m.vals,dR m.arrs] [(0,pA 0),(1,.agg [.ref 3,.ref 4])] fun G=>?_;refine wp_seq (j7 G f8 [0,1,2,3,4,5,13,21] [dI c.vars,dI c.arrays,dN c.list,dI m.vals,dR m.arrs,.box (pL 0),.box [.ref 3,.ref 4],.box [.v (.slice none 0 0),.v (.slice none 0 0)]] [(2,.ptr 5 0),(3,.ptr 6 0),(4,.ptr 7 0),(5,.v (.slice none 0 0)),(6,bA false)] fun G=>b6 (wp_seq (j7 G (x6 2 (rg 5) hrn) [0,1,2,3,4,7,24,25,26,27,28] [dI c.vars,dI c.arrays,dN c.list,dI m.vals,dR m.arrs,.box [.v (.slice none 0 0),.v (.slice none 0 0)],.box [iA s.pc,.ref 7,.ref 8,.tref 9],.row 3 (D.ints s.regs),.row 3 (D.ints s.mem.vals),.tree (D.rows s.mem.arrs),.row 39 (D.events v)] [(4,.ptr 5 0),(5,.v (.slice none 0 0)),(6,bA false),(7,.ptr 6 0),(8,.ref 10),(9,bA true)] fun G=>b6 (wp_seq (wp_seq (l6 G f8 [(18,bA false)] fun G=>b6 (rF G false aj (wp_skip (b6 (wp_seq (j7 G f8 [0,1,2,3,4,5,8,9,10] [dI c.vars,dI c.arrays,dN c.list,dI m.vals,dR m.arrs,.box [.ref 6,.tref 7],.row 3 (D.ints s.mem.vals),.tree (D.rows s.mem.arrs),.row 39 (D.events v)] [(4,.ptr 5 0),(5,.ref 8),(6,bA true)] fun G=>b6 (wp_ret ?_))))))))))));exact G7 G [0,1,2,3,4,6,7,8]
abbrev br7(r0:List (Nat×AV)):List (Nat×AV):=(4,.ptr 5 0)::(5,.v (.slice none 0 0))::(6,bA false)::(7,.v (.pointer none))::(8,.v (.slice none 0 0))::r0
theorem aM0(c:d8)(m:z6)(hran:j8.ok Tryz.prog ⟨37,[pA 0,mA 3],kcS c++mS m,kcS c++mS m,.tup [.v (.pointer none),.v (.slice none 0 0),bA false]⟩):j8.ok Tryz.prog (rcC c m ⟨[],[]⟩ [] false):=by
 have hrn:=hran;refine D9 25 Tryz.func10 [dI c.vars,dI c.arrays,dN c.list,dI m.vals,dR m.arrs] [(0,pA 0),(1,.agg [.ref 3,.ref 4])] fun G=>?_;refine wp_seq (j7 G f8 [0,1,2,3,4,5,13,21] [dI c.vars,dI c.arrays,dN c.list,dI m.vals,dR m.arrs,.box (pL 0),.box [.ref 3,.ref 4],.box [.v (.slice none 0 0),.v (.slice none 0 0)]] [(2,.ptr 5 0),(3,.ptr 6 0),(4,.ptr 7 0),(5,.v (.slice none 0 0)),(6,bA false)] fun G=>b6 (wp_seq (j7 G (x6 2 (rg 5) hrn) [0,1,2,3,4,7] [dI c.vars,dI c.arrays,dN c.list,dI m.vals,dR m.arrs,.box [.v (.slice none 0 0),.v (.slice none 0 0)]] (br7 [(9,bA false)]) fun G=>b6 (wp_seq (wp_seq (l6 G f8 [(18,bA true)] fun G=>b6 (rT G true aj (wp_seq (C6 G f8 (br7 []) fun G=>b6 (wp_ret (l7 ?_)))))))))));obtain⟨ρ,G⟩:=G.nil 6 3 (.ints []) 1 [dI c.vars,dI c.arrays,dN c.list,dI m.vals,dR m.arrs,.box [.ref 6,.v (.slice none 0 0)]] (br7 []);obtain⟨ρ,G⟩:=G.nilT 7 (.rows []) [dI c.vars,dI c.arrays,dN c.list,dI m.vals,dR m.arrs,.box [.ref 6,.tref 7],.row 3 (D.ints [])] (br7 []);obtain⟨ρ,G⟩:=G.nil 8 39 (.events []) 6 [dI c.vars,dI c.arrays,dN c.list,dI m.vals,dR m.arrs,.box [.ref 6,.tref 7],.row 3 (D.ints []),.tree (D.rows [])] [(4,.ptr 5 0),(5,.ref 8),(6,bA false),(7,.v (.pointer none)),(8,.v (.slice none 0 0))];exact G7 G [0,1,2,3,4,6,7,8]
def br4(c:d8)(m x:z6)(v:List (Int×Int))(b:Bool):Prop:=
 (b=true/\l5 c=true/\L4 c.vars.length c.arrays.length m=true/\∃n,aT4 c m n/\x=cz2 c m n/\v=aw7 c m n)\/
 (b=false/\x=⟨[],[]⟩/\v=[]/\∀n,¬(l5 c=true/\L4 c.vars.length c.arrays.length m=true/\aT4 c m n))
theorem aY1(c:d8)(m:z6)(hx:m.vals.length<=1048576)(hr:m.arrs.length<=1048576)(hi:∀r∈m.arrs,r.length<=1048576):∃x v b,br4 c m x v b/\j8.ok Tryz.prog (rcC c m x v b):=by
 cases hok:(l5 c&&L4 c.vars.length c.arrays.length m)with
 |false=>
  refine⟨_,_,_,.inr ⟨rfl,rfl,rfl,fun n h=>?_⟩,aM0 c m (bZ4 c m hok hx hr hi)⟩
  rw[h.1,h.2.1]at hok;cases hok
 | true =>
  rw[cD5]at hok
  obtain⟨hc,hm⟩:=hok
  rcases b00 c m with⟨n,h⟩|h
  ·refine⟨_,_,_,.inl ⟨rfl,hc,hm,n,h,rfl,rfl⟩,bl2 c m (v9 c (n7 m) (n+1)) _ (cb2 c m (n+1) hc hm ⟨?_,fun k hk=>?_,fun _=>⟨n,rfl,h.fin⟩,fun e=>by cases e⟩ hx hr hi)⟩
   ·have:=h.lt;omega
   exact h.no k al
  refine⟨_,_,_,.inr ⟨rfl,rfl,rfl,fun n h2=>?_⟩,aM0 c m (bZ3 c m hc hm ⟨cE1 _,fun k hk=>h k al,(fun e=>by cases e),fun _=>⟨rfl,h⟩⟩ hx hr hi)⟩
  have:=h n h2.2.2.lt
  rw[h2.2.2.fin]at this;cases this
theorem bw3{P:Program}{f:FuncId}{args:List AV}{S:List It}{x y:Value}(h:∀(φ:Nat->Prop) (w:World) (ρ:Nat->Value),(∀i d,t2 S i=.dat d->RD w φ d (ρ i))->Calls P f (AV.vals ρ args).toArray w fun e w'=>e=.returned (.tuple #[x,y])/\Below w.heap.size w w'):j8.ok P (P1 f args S (.tup [.v x,.v y])):=by
 intro ι φ ψ w0 w F ρ M
 refine(h (FrF φ (s4 F ρ (t2 S))) w ρ fun i d hi=>M.datAt hi).mono ?_
 rintro e w' ⟨rfl,hb⟩
 exact⟨ρ,fun _ _=>rfl,rfl,M.call hb⟩
theorem a58(v ar:List Int)(l:List d9):j8.ok Tryz.prog (P1 8 [.agg [.ref 0,.ref 1,.ref 2]] [.dat (.ints v),.dat (.ints ar),.dat (.instrs l)] (.tup [iA (ac7 ⟨v,ar,l⟩).1,iA (ac7 ⟨v,ar,l⟩).2])):=
 bw3 fun φ w ρ h=>aP1 _ ⟨v,ar,l⟩ w ⟨ρ 0,ρ 1,ρ 2,rfl,A6.row (h 0 _ rfl),A6.row (h 1 _ rfl),A6.row (h 2 _ rfl)⟩
theorem bh7(v ar:List Int)(l:List d9):j8.ok Tryz.prog (P1 9 [.agg [.ref 0,.ref 1,.ref 2]] [.dat (.ints v),.dat (.ints ar),.dat (.instrs l)] (.tup [iA (ac7 ⟨v,ar,l⟩).1,iA (ac7 ⟨v,ar,l⟩).2])):=
 bw3 fun φ w ρ h=>aL4 _ ⟨v,ar,l⟩ w ⟨ρ 0,ρ 1,ρ 2,rfl,A6.row (h 0 _ rfl),A6.row (h 1 _ rfl),A6.row (h 2 _ rfl)⟩
theorem ch4{c:d8}(h:l5 c=false):ac7 c=(5,-1):=by unfold ac7;rw[h];rfl
theorem ch5{c:d8}(h:l5 c=true):∃m,K9 c m/\ac7 c=H8 c m:=by
 obtain⟨m,hm⟩:=bP3 h
 refine⟨m,hm,?_⟩
 unfold ac7
 rw[if_pos h, <-aO1 hm]
end Go.Proofs.YtfbeblgnjeokaaaGreat
