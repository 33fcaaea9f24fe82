/- Part 8: functions on the way, plain laws. Conditions: as said. -/
import Derived.Test.YtfbeblgnjeokaaaGreatK1
import Derived.Test.YtfbeblgnjeokaaaGreatK2
import Derived.Test.YtfbeblgnjeokaaaGreatK5
import Derived.Test.YtfbeblgnjeokaaaGreatK7
set_option maxRecDepth 100000
set_option maxHeartbeats 16000000
set_option linter.unusedVariables false
set_option linter.unusedSimpArgs false
open Inhabited renaming default → cv2
open List renaming take → cw1, take_of_length_le → cw7
open Nat renaming le_refl → cv7, zero_le → cy4
open True renaming intro → cx2

namespace Go.Proofs.YtfbeblgnjeokaaaGreat
open Go Go.RowKit
abbrev ncC(b:List UInt8)(j:Int)(c:c8)(q:Int):j8:=⟨27,[.ptr 0 0],[.box [.ref 1,iA j],dY b],[.box [.ref 1,iA q],dY b,rI c.vars,rI c.arrays,rN c.list],.agg [.ref 2,.ref 3,.ref 4]⟩
theorem b55{p:f7}{x:Bool}(hb:p.size<=1048576)(h:okC (I9 p)=x):j8.ok Tryz.prog ⟨14,[pA 0],pS p,pS p++[rI (cvP (I9 p)),rI (caP (I9 p)),rN (K8 (I9 p)).1],.tup [.agg [.ref 3,.ref 4,.ref 5],bA x]⟩:=h▸aH6 p hb
abbrev bH5:It:=.box [.v (.slice none 0 0),.v (.slice none 0 0),.v (.slice none 0 0)]
theorem ch1(b:List UInt8)(j:Int)(h0:¬pk b (l9 b j).2 3=0)(h1:¬pk b (l9 b j).2 3=1)(r0:0<=j)(r1:j<=1000000):j8.ok Tryz.prog (ncC b j (l9 b j).1 ((l9 b j).2+1)):=by
  have hcd:=bT3 b r0 (show j<=10000000 by omega);refine H9 103 Tryz.func27 [.box [.ref 1,iA j],dY b] [(0,.ptr 0 0)] fun G=>?_;refine wp_seq (j9 G f8 [0,1,2] [.box [.ref 1,iA j],dY b,bH5] [(0,.ptr 0 0),(2,.ptr 2 0)] fun G=>b6 (wp_seq (j9 G (w6 1 [0,1] (az0 b j ai al)) [0,1,2,11,12,13,19] [.box [.ref 1,iA (l9 b j).snd],dY b,bH5,.row 3 (D.ints (l9 b j).fst.vars),.row 3 (D.ints (l9 b j).fst.arrays),.row 76 (D.instrs (l9 b j).fst.list),.box (pL 3)] [(0,.ptr 0 0),(2,.ptr 2 0),(3,.ptr 6 0)] fun G=>b6 (wp_seq (wp_seq (j9 G (w6 1 [0,1] (D7 b ((l9 b j).snd) 3 al al)) (rg 7) [.box [.ref 1,iA ((l9 b j).snd+1)],dY b,bH5,.row 3 (D.ints (l9 b j).fst.vars),.row 3 (D.ints (l9 b j).fst.arrays),.row 76 (D.instrs (l9 b j).fst.list),.box (pL 3)] [(0,.ptr 0 0),(2,.ptr 2 0),(3,.ptr 6 0),(12,iA (pk b (l9 b j).snd 3))] fun G=>b6 (wp_block (wp_seq (G3 G f8 [(0,.ptr 0 0),(2,.ptr 2 0),(3,.ptr 6 0),(12,iA (pk b (l9 b j).snd 3)),(13,bA (pk b (l9 b j).snd 3==0))] fun G=>b6 ?_)))))))));cases h0:(pk b (l9 b j).snd (3:Int)==0)
  ·
   have q0:=ne_of_beq_false h0;refine rF G _ h0 (wp_seq (G3 G f8 [(2,.ptr 2 0),(3,.ptr 6 0),(29,bA (pk b (l9 b j).snd 3==1))] fun G=>b6 ?_));cases h1:(pk b (l9 b j).snd (3:Int)==1)
   · have q1:=ne_of_beq_false h1;refine rF G _ h1 (wp_skip (p8 (b6 (wp_seq (j9 G f8 (rg 6) [.box [.ref 1,iA ((l9 b j).snd+1)],dY b,.box (pL 3),.row 3 (D.ints (l9 b j).fst.vars),.row 3 (D.ints (l9 b j).fst.arrays),.row 76 (D.instrs (l9 b j).fst.list)] [(2,.ptr 2 0)] fun G=>b6 (wp_ret ?_))))));exact O8 G [0,1,3,4,5]
   have q1:=eq_of_beq h1;exact False.elim al
  have q0:=eq_of_beq h0;exact False.elim al
abbrev al3:It:=.box [.v (.slice none 0 0),.v (.slice none 0 0),.v (.slice none 0 0)]
abbrev ar5(b:List UInt8)(j:Int):It:=.box [.ref 1,iA ((l9 b j).snd+1)]
abbrev aE4(b:List UInt8)(j:Int)(k:Nat):It:=.row 3 (D.ints (rqL 1 (l9 b j).fst.vars k))
abbrev aW5(b:List UInt8)(j:Int)(i:Nat):It:=.row 3 (D.ints (rqL 1 (l9 b j).fst.arrays i))
abbrev aW4(b:List UInt8)(j:Int):It:=.row 76 (D.instrs (l9 b j).fst.list)
theorem ch2(b:List UInt8)(j:Int)(hpk:pk b (l9 b j).2 3=1)(r0:0<=j)(r1:j<=1000000):j8.ok Tryz.prog (ncC b j ⟨(l9 b j).1.vars.map fun x=>l6 x 1,(l9 b j).1.arrays.map fun x=>l6 x 1,(l9 b j).1.list.map fnI⟩ ((l9 b j).2+1)):=by
  have hcd:=bT3 b r0 (show j<=10000000 by omega);have hpg:=bL9 b j;have hpv:(l9 b j).1.vars.length<=12:=hpg.1;have hpa:(l9 b j).1.arrays.length<=2:=hpg.2.1;refine H9 103 Tryz.func27 [.box [.ref 1,iA j],dY b] [(0,.ptr 0 0)] fun G=>?_;refine wp_seq (j9 G f8 [0,1,2] [.box [.ref 1,iA j],dY b,al3] [(0,.ptr 0 0),(2,.ptr 2 0)] fun G=>b6 (wp_seq (j9 G (w6 1 [0,1] (az0 b j ai al)) [0,1,2,11,12,13,19] [.box [.ref 1,iA (l9 b j).snd],dY b,al3,.row 3 (D.ints (l9 b j).fst.vars),.row 3 (D.ints (l9 b j).fst.arrays),aW4 b j,.box (pL 3)] [(0,.ptr 0 0),(2,.ptr 2 0),(3,.ptr 6 0)] fun G=>b6 (wp_seq (wp_seq (j9 G (w6 1 [0,1] (D7 b ((l9 b j).snd) 3 al al)) (rg 7) [ar5 b j,dY b,al3,.row 3 (D.ints (l9 b j).fst.vars),.row 3 (D.ints (l9 b j).fst.arrays),aW4 b j,.box (pL 3)] [(0,.ptr 0 0),(2,.ptr 2 0),(3,.ptr 6 0),(12,iA (pk b (l9 b j).snd 3))] fun G=>b6 (wp_block (wp_seq (G3 G f8 [(0,.ptr 0 0),(2,.ptr 2 0),(3,.ptr 6 0),(12,iA (pk b (l9 b j).snd 3)),(13,bA (pk b (l9 b j).snd 3==0))] fun G=>b6 ?_)))))))));cases h0:(pk b (l9 b j).snd (3:Int)==0)
  ·
   have q0:=ne_of_beq_false h0;refine rF G _ h0 (wp_seq (G3 G f8 [(2,.ptr 2 0),(3,.ptr 6 0),(29,bA (pk b (l9 b j).snd 3==1))] fun G=>b6 ?_));cases h1:(pk b (l9 b j).snd (3:Int)==1)
   · have q1:=ne_of_beq_false h1;exact False.elim al
   have q1:=eq_of_beq h1;refine rT G _ h1 (wp_seq (wp_seq (G3 G f8 [(2,.ptr 2 0),(3,.ptr 6 0),(6,iA 0)] fun G=>b6 (wp_block ?_))));refine x6 (κ:=Nat) (fun k=>k<=(l9 b j).1.vars.length) (fun k=>(l9 b j).1.vars.length-k) (fun k=>[.box [.ref 1,iA ((l9 b j).snd+1)],dY b,.box [.v (.slice none 0 0),.v (.slice none 0 0),.v (.slice none 0 0)],.row 3 (.ints (rqL 1 (l9 b j).1.vars k)),.row 3 (D.ints (l9 b j).fst.arrays),.row 76 (D.instrs (l9 b j).fst.list),.box (pL 3)]) (fun k=>[(2,.ptr 2 0),(3,.ptr 6 0),(6,iA k)]) 0 al (x7.at G _ _) ?_;clear G;intro k ρ a w hp G;replace G:=x7.at G [ar5 b j,dY b,al3,aE4 b j k,.row 3 (D.ints (l9 b j).fst.arrays),aW4 b j,.box (pL 3)] [(2,.ptr 2 0),(3,.ptr 6 0),(6,iA k)];have hq:=bv5 1 (l9 b j).1.vars k;refine wp_seq (wp_seq (l8 G f8 [(35,bA (decide ((k:Int)<((rqL 1 (l9 b j).fst.vars k).length:Int))))] fun G=>b6 (rcD G (fun h2 q2=>?_) fun h2 q2=>?_)))
   ·
    refine wp_exit (v8 (v8 (v6 (b6 (wp_seq (wp_seq (G3 G f8 [(2,.ptr 2 0),(3,.ptr 6 0),(7,iA 0)] fun G=>b6 (wp_block ?_))))))));refine x6 (κ:=Nat) (fun i=>i<=(l9 b j).1.arrays.length) (fun i=>(l9 b j).1.arrays.length-i) (fun i=>[.box [.ref 1,iA ((l9 b j).snd+1)],dY b,.box [.v (.slice none 0 0),.v (.slice none 0 0),.v (.slice none 0 0)],.row 3 (D.ints (rqL 1 (l9 b j).fst.vars k)),.row 3 (.ints (rqL 1 (l9 b j).1.arrays i)),.row 76 (D.instrs (l9 b j).fst.list),.box (pL 3)]) (fun i=>[(2,.ptr 2 0),(3,.ptr 6 0),(7,iA i)]) 0 al (x7.at G _ _) ?_;clear G;intro i ρ a w hp G;replace G:=x7.at G [ar5 b j,dY b,al3,aE4 b j k,aW5 b j i,aW4 b j,.box (pL 3)] [(2,.ptr 2 0),(3,.ptr 6 0),(7,iA i)];have hqa:=bv5 1 (l9 b j).1.arrays i;refine wp_seq (wp_seq (l8 G f8 [(52,bA (decide ((i:Int)<((rqL 1 (l9 b j).fst.arrays i).length:Int))))] fun G=>b6 (rcD G (fun h3 q3=>?_) fun h3 q3=>?_)))
    ·
     refine wp_exit (v8 (v8 (v6 (b6 (wp_seq (G3 G f8 [(2,.ptr 2 0),(3,.ptr 6 0),(8,iA 0)] fun G=>b6 (wp_block ?_)))))));refine x6 (κ:=Nat) (fun n=>n<=(l9 b j).1.list.length) (fun n=>(l9 b j).1.list.length-n) (fun n=>[.box [.ref 1,iA ((l9 b j).snd+1)],dY b,.box [.v (.slice none 0 0),.v (.slice none 0 0),.v (.slice none 0 0)],.row 3 (D.ints (rqL 1 (l9 b j).fst.vars k)),.row 3 (D.ints (rqL 1 (l9 b j).fst.arrays i)),.row 76 (.instrs (fnL (l9 b j).1.list n)),.box (pL 3)]) (fun n=>[(2,.ptr 2 0),(3,.ptr 6 0),(8,iA n)]) 0 al (x7.at G _ _) ?_;clear G;intro n ρ a w hp G;replace G:=x7.at G [ar5 b j,dY b,al3,aE4 b j k,aW5 b j i,.row 76 (D.instrs (fnL (l9 b j).fst.list n)),.box (pL 3)] [(2,.ptr 2 0),(3,.ptr 6 0),(8,iA n)];have hql:=by1 (l9 b j).1.list n;refine wp_seq (wp_seq (l8 G f8 [(69,bA (decide ((n:Int)<((fnL (l9 b j).fst.list n).length:Int))))] fun G=>b6 (rcD G (fun h4 q4=>?_) fun h4 q4=>?_)))
     · refine wp_exit (v8 (v8 (v6 (p8 (b6 (wp_seq (j9 G f8 (rg 6) [ar5 b j,dY b,.box (pL 3),aE4 b j k,aW5 b j i,.row 76 (D.instrs (fnL (l9 b j).fst.list n))] [(2,.ptr 2 0)] fun G=>b6 (wp_ret ?_))))))));exact O8 G [0,1,3,4,5] (by show _=mR [0,1,3,4,5] [.box [.ref 1,iA ((l9 b j).snd+1)],dY b,.row 3 (D.ints (c8.mk (List.map (fun(x:Int)=>l6 x 1) (l9 b j).fst.vars) (List.map (fun(x:Int)=>l6 x 1) (l9 b j).fst.arrays) (List.map fnI (l9 b j).fst.list)).vars),.row 3 (D.ints (c8.mk (List.map (fun(x:Int)=>l6 x 1) (l9 b j).fst.vars) (List.map (fun(x:Int)=>l6 x 1) (l9 b j).fst.arrays) (List.map fnI (l9 b j).fst.list)).arrays),.row 76 (D.instrs (c8.mk (List.map (fun(x:Int)=>l6 x 1) (l9 b j).fst.vars) (List.map (fun(x:Int)=>l6 x 1) (l9 b j).fst.arrays) (List.map fnI (l9 b j).fst.list)).list)];have e1:((c8.mk (List.map (fun(x:Int)=>l6 x 1) (l9 b j).fst.vars) (List.map (fun(x:Int)=>l6 x 1) (l9 b j).fst.arrays) (List.map fnI (l9 b j).fst.list)).vars:List Int)=(rqL 1 (l9 b j).fst.vars k):=((bv6 al).symm);have e2:((c8.mk (List.map (fun(x:Int)=>l6 x 1) (l9 b j).fst.vars) (List.map (fun(x:Int)=>l6 x 1) (l9 b j).fst.arrays) (List.map fnI (l9 b j).fst.list)).arrays:List Int)=(rqL 1 (l9 b j).fst.arrays i):=((bv6 al).symm);have e3:((c8.mk (List.map (fun(x:Int)=>l6 x 1) (l9 b j).fst.vars) (List.map (fun(x:Int)=>l6 x 1) (l9 b j).fst.arrays) (List.map fnI (l9 b j).fst.list)).list:List d8)=(fnL (l9 b j).fst.list n):=((b01 al).symm);(first|rw[e1,e2,e3]|simp only[e1,e2,e3])<;>rfl)
     refine wp_skip (b6 (wp_seq (wp_block (wp_seq ?_))));cases h5:(((fnL (l9 b j).fst.list n).getD n cv2).op==9)
     ·
      have q5:=ne_of_beq_false h5;cases h6:(((fnL (l9 b j).fst.list n).getD n cv2).op==4)
      ·
       have q6:=ne_of_beq_false h6;refine P4 G (K6 (fc h5 (fc h6 fz)) (us [(8,14,0),(1015,1015,0),(17,23,1),(1024,1024,1)])) [(96,bA (((fnL (l9 b j).fst.list n).getD n cv2).op==5))] (iX n n ((fnL (l9 b j).fst.list n).length) (iX n n ((fnL (l9 b j).fst.list n).length) (iX n n ((fnL (l9 b j).fst.list n).length) []))) (iK al (iK al (iK al cx2))) fun G=>b6 (S4 G (fun h7 q7=>?_) fun h7 q7=>?_)
       · refine wp_skip (p8 (b6 (P4 G f8 [(8,iA ((n:Int)+1))] [wO ((n:Int)+1)] (o1 al) fun G=>b6 ?_)));exact U5 G (n+1) al al (rg 7) (by have e1:(fnL (l9 b j).fst.list (n+1):List d8)=(fnL (l9 b j).fst.list n):=(cl4 al al);(first|rw[e1]|simp only[e1])<;>rfl)
       refine rA1 G f8 (rg 7) [ar5 b j,dY b,al3,aE4 b j k,aW5 b j i,.row 76 (D.instrs ((fnL (l9 b j).fst.list n).set n (d8.mk 12 0 0 0 0))),.box (pL 3)] [(2,.ptr 2 0),(3,.ptr 6 0),(8,iA n)] (iX n n ((fnL (l9 b j).fst.list n).length) []) (iK al cx2) fun G=>p8 (b6 (P4 G f8 [(8,iA ((n:Int)+1))] [wO ((n:Int)+1)] (o1 al) fun G=>b6 ?_));exact U5 G (n+1) al al (rg 7) (by have e1:(fnL (l9 b j).fst.list (n+1):List d8)=((fnL (l9 b j).fst.list n).set n (d8.mk 12 0 0 0 0)):=(bR0 al al);(first|rw[e1]|simp only[e1])<;>rfl)
      have q6:=eq_of_beq h6;refine P4 G (K6 (fc h5 (fc h6 fz)) (us [(8,14,0),(1015,1015,0),(17,23,1),(1024,1024,1)])) [(96,bA true)] (iX n n ((fnL (l9 b j).fst.list n).length) (iX n n ((fnL (l9 b j).fst.list n).length) [])) (iK al (iK al cx2)) fun G=>b6 (rT G true aj (rA1 G f8 (rg 7) [ar5 b j,dY b,al3,aE4 b j k,aW5 b j i,.row 76 (D.instrs ((fnL (l9 b j).fst.list n).set n (d8.mk 12 0 0 0 0))),.box (pL 3)] [(2,.ptr 2 0),(3,.ptr 6 0),(8,iA n)] (iX n n ((fnL (l9 b j).fst.list n).length) []) (iK al cx2) fun G=>p8 (b6 (P4 G f8 [(8,iA ((n:Int)+1))] [wO ((n:Int)+1)] (o1 al) fun G=>b6 ?_))));exact U5 G (n+1) al al (rg 7) (by have e1:(fnL (l9 b j).fst.list (n+1):List d8)=((fnL (l9 b j).fst.list n).set n (d8.mk 12 0 0 0 0)):=(bR0 al al);(first|rw[e1]|simp only[e1])<;>rfl)
     have q5:=eq_of_beq h5;refine P4 G (K6 (fc h5 (fc (b:=true) rfl fz)) (us [(8,14,0),(1015,1015,0),(17,23,1),(1024,1024,1)])) [(96,bA true)] (iX n n ((fnL (l9 b j).fst.list n).length) []) (iK al cx2) fun G=>b6 (rT G true aj (rA1 G f8 (rg 7) [ar5 b j,dY b,al3,aE4 b j k,aW5 b j i,.row 76 (D.instrs ((fnL (l9 b j).fst.list n).set n (d8.mk 12 0 0 0 0))),.box (pL 3)] [(2,.ptr 2 0),(3,.ptr 6 0),(8,iA n)] (iX n n ((fnL (l9 b j).fst.list n).length) []) (iK al cx2) fun G=>p8 (b6 (P4 G f8 [(8,iA ((n:Int)+1))] [wO ((n:Int)+1)] (o1 al) fun G=>b6 ?_))));exact U5 G (n+1) al al (rg 7) (by have e1:(fnL (l9 b j).fst.list (n+1):List d8)=((fnL (l9 b j).fst.list n).set n (d8.mk 12 0 0 0 0)):=(bR0 al al);(first|rw[e1]|simp only[e1])<;>rfl)
    refine wp_skip (b6 (wp_seq (wp_block (S8 G f8 [0,1,0,0,8,0,56,120,248,511,1023] (rg 7) [ar5 b j,dY b,al3,aE4 b j k,.row 3 (D.ints ((rqL 1 (l9 b j).fst.arrays i).set i (l6 ((rqL 1 (l9 b j).fst.arrays i).getD i 0) 1))),aW4 b j,.box (pL 3)] [(2,.ptr 2 0),(3,.ptr 6 0),(7,iA i)] (iX i i ((rqL (1:Int) (l9 b j).fst.arrays i).length) (iX i i ((rqL (1:Int) (l9 b j).fst.arrays i).length) [])) (iK al (iK al cx2)) fun G=>p8 (b6 (P4 G f8 [(7,iA ((i:Int)+1))] [wO ((i:Int)+1)] (o1 al) fun G=>b6 ?_))))));exact U5 G (i+1) al al (rg 7) (by have e1:(rqL 1 (l9 b j).fst.arrays (i+1):List Int)=((rqL 1 (l9 b j).fst.arrays i).set i (l6 ((rqL 1 (l9 b j).fst.arrays i).getD i 0) 1)):=((bv4 al).symm);(first|rw[e1]|simp only[e1])<;>rfl)
   refine wp_skip (b6 (wp_seq (wp_block (S8 G f8 [0,1,0,0,8,0,56,120,248,511,1023] (rg 7) [ar5 b j,dY b,al3,.row 3 (D.ints ((rqL 1 (l9 b j).fst.vars k).set k (l6 ((rqL 1 (l9 b j).fst.vars k).getD k 0) 1))),.row 3 (D.ints (l9 b j).fst.arrays),aW4 b j,.box (pL 3)] [(2,.ptr 2 0),(3,.ptr 6 0),(6,iA k)] (iX k k ((rqL (1:Int) (l9 b j).fst.vars k).length) (iX k k ((rqL (1:Int) (l9 b j).fst.vars k).length) [])) (iK al (iK al cx2)) fun G=>p8 (b6 (P4 G f8 [(6,iA ((k:Int)+1))] [wO ((k:Int)+1)] (o1 al) fun G=>b6 ?_))))));exact U5 G (k+1) al al (rg 7) (by have e1:(rqL 1 (l9 b j).fst.vars (k+1):List Int)=((rqL 1 (l9 b j).fst.vars k).set k (l6 ((rqL 1 (l9 b j).fst.vars k).getD k 0) 1)):=((bv4 al).symm);(first|rw[e1]|simp only[e1])<;>rfl)
  have q0:=eq_of_beq h0;exact False.elim al
abbrev bt9:It:=.box [.v (.slice none 0 0),.v (.slice none 0 0),.v (.slice none 0 0)]
abbrev bs8(b:List UInt8)(j:Int)(r0:List It):List It:=.row 3 (D.ints (l9 b j).fst.vars)::.row 3 (D.ints (l9 b j).fst.arrays)::.row 76 (D.instrs (l9 b j).fst.list)::.box (pL 3)::r0
theorem b78(b:List UInt8)(j:Int)(hpk:pk b (l9 b j).2 3=0)(hok:okC (I9 (J1 b 3 ((l9 b j).2+1)).1)=true)(hl:(K8 (I9 (J1 b 3 ((l9 b j).2+1)).1)).1.length<=60)(r0:0<=j)(r1:j<=1000000):j8.ok Tryz.prog (ncC b j ⟨cvP (I9 (J1 b 3 ((l9 b j).2+1)).1),caP (I9 (J1 b 3 ((l9 b j).2+1)).1),(K8 (I9 (J1 b 3 ((l9 b j).2+1)).1)).1⟩ (J1 b 3 ((l9 b j).2+1)).2):=by
  have hcd:=bT3 b r0 (show j<=10000000 by omega);have hfi:=b05 b 3 ((l9 b j).2+1) (cv7 _) al al;have hcs:=b55 (show(J1 b 3 ((l9 b j).2+1)).1.size<=1048576 by omega) hok;refine H9 103 Tryz.func27 [.box [.ref 1,iA j],dY b] [(0,.ptr 0 0)] fun G=>?_;refine wp_seq (j9 G f8 [0,1,2] [.box [.ref 1,iA j],dY b,bt9] [(0,.ptr 0 0),(2,.ptr 2 0)] fun G=>b6 (wp_seq (j9 G (w6 1 [0,1] (az0 b j ai al)) [0,1,2,11,12,13,19] (.box [.ref 1,iA (l9 b j).snd]::dY b::bt9::(bs8 b j [])) [(0,.ptr 0 0),(2,.ptr 2 0),(3,.ptr 6 0)] fun G=>b6 (wp_seq (wp_seq (j9 G (w6 1 [0,1] (D7 b ((l9 b j).snd) 3 al al)) (rg 7) (.box [.ref 1,iA ((l9 b j).snd+1)]::dY b::bt9::(bs8 b j [])) [(0,.ptr 0 0),(2,.ptr 2 0),(3,.ptr 6 0),(12,iA (pk b (l9 b j).snd 3))] fun G=>b6 (wp_block (wp_seq (G3 G f8 [(0,.ptr 0 0),(2,.ptr 2 0),(3,.ptr 6 0),(12,iA (pk b (l9 b j).snd 3)),(13,bA (pk b (l9 b j).snd 3==0))] fun G=>b6 ?_)))))))));cases h0:(pk b (l9 b j).snd (3:Int)==0)
  · have q0:=ne_of_beq_false h0;exact False.elim al
  have q0:=eq_of_beq h0;refine rT G _ h0 (wp_seq (j9 G (I2 (v9 1 [0,1] (aF8 b ((l9 b j).snd+1) al al) (v9 2 [15,16,17] (j8.lend hcs [.row 3,.row 3,.tree]) I1)) fz []) [0,1,2,3,4,5,6,23,24,25,55] (.box [.ref 1,iA (J1 b 3 ((l9 b j).snd+1)).snd]::dY b::bt9::(bs8 b j [.row 3 (D.ints (cvP (I9 (J1 b 3 ((l9 b j).snd+1)).fst))),.row 3 (D.ints (caP (I9 (J1 b 3 ((l9 b j).snd+1)).fst))),.row 76 (D.instrs (K8 (I9 (J1 b 3 ((l9 b j).snd+1)).fst)).fst),.box (pL 7)])) [(2,.ptr 2 0),(3,.ptr 6 0),(4,.ptr 10 0),(5,bA true)] fun G=>b6 (wp_seq (G3 G (K6 (fc (b:=true) rfl fz) (us [(2,5,0),(1006,1006,0)])) [(2,.ptr 2 0),(3,.ptr 6 0),(4,.ptr 10 0),(27,bA (decide (((K8 (I9 (J1 b 3 ((l9 b j).snd+1)).fst)).fst.length:Int)<=60)))] fun G=>b6 ?_))));cases h1:(decide (((K8 (I9 (J1 b (3:Nat) ((l9 b j).snd+1)).fst)).fst.length:Int)<=60))
  · have q1:=dFf h1;exact False.elim al
  have q1:=dTt h1;refine rT G _ h1 (wp_seq (j9 G f8 (rg 10) (.box [.ref 1,iA (J1 b 3 ((l9 b j).snd+1)).snd]::dY b::.box (pL 7)::(bs8 b j [.row 3 (D.ints (cvP (I9 (J1 b 3 ((l9 b j).snd+1)).fst))),.row 3 (D.ints (caP (I9 (J1 b 3 ((l9 b j).snd+1)).fst))),.row 76 (D.instrs (K8 (I9 (J1 b 3 ((l9 b j).snd+1)).fst)).fst)])) [(2,.ptr 2 0),(3,.ptr 6 0)] fun G=>b6 (wp_ret (B7 (l7 ?_)))));exact O8 G [0,1,7,8,9]
abbrev bt8:It:=.box [.v (.slice none 0 0),.v (.slice none 0 0),.v (.slice none 0 0)]
abbrev a90(b:List UInt8)(j:Int)(r0:List It):List It:=.row 3 (D.ints (l9 b j).fst.vars)::.row 3 (D.ints (l9 b j).fst.arrays)::.row 76 (D.instrs (l9 b j).fst.list)::r0
theorem b79(b:List UInt8)(j:Int)(x:Bool)(hpk:pk b (l9 b j).2 3=0)(hok:okC (I9 (J1 b 3 ((l9 b j).2+1)).1)=x)(hl:¬(x=true/\(K8 (I9 (J1 b 3 ((l9 b j).2+1)).1)).1.length<=60))(r0:0<=j)(r1:j<=1000000):j8.ok Tryz.prog (ncC b j (l9 b j).1 (J1 b 3 ((l9 b j).2+1)).2):=by
  have hcd:=bT3 b r0 (show j<=10000000 by omega);have hfi:=b05 b 3 ((l9 b j).2+1) (cv7 _) al al;have hcs:=b55 (show(J1 b 3 ((l9 b j).2+1)).1.size<=1048576 by omega) hok;refine H9 103 Tryz.func27 [.box [.ref 1,iA j],dY b] [(0,.ptr 0 0)] fun G=>?_;refine wp_seq (j9 G f8 [0,1,2] [.box [.ref 1,iA j],dY b,bt8] [(0,.ptr 0 0),(2,.ptr 2 0)] fun G=>b6 (wp_seq (j9 G (w6 1 [0,1] (az0 b j ai al)) [0,1,2,11,12,13,19] (.box [.ref 1,iA (l9 b j).snd]::dY b::bt8::(a90 b j [.box (pL 3)])) [(0,.ptr 0 0),(2,.ptr 2 0),(3,.ptr 6 0)] fun G=>b6 (wp_seq (wp_seq (j9 G (w6 1 [0,1] (D7 b ((l9 b j).snd) 3 al al)) (rg 7) (.box [.ref 1,iA ((l9 b j).snd+1)]::dY b::bt8::(a90 b j [.box (pL 3)])) [(0,.ptr 0 0),(2,.ptr 2 0),(3,.ptr 6 0),(12,iA (pk b (l9 b j).snd 3))] fun G=>b6 (wp_block (wp_seq (G3 G f8 [(0,.ptr 0 0),(2,.ptr 2 0),(3,.ptr 6 0),(12,iA (pk b (l9 b j).snd 3)),(13,bA (pk b (l9 b j).snd 3==0))] fun G=>b6 ?_)))))))));cases h0:(pk b (l9 b j).snd (3:Int)==0)
  · have q0:=ne_of_beq_false h0;exact False.elim al
  have q0:=eq_of_beq h0;refine rT G _ h0 (wp_seq (j9 G (I2 (v9 1 [0,1] (aF8 b ((l9 b j).snd+1) al al) (v9 2 [15,16,17] (j8.lend hcs [.row 3,.row 3,.tree]) I1)) fz []) [0,1,2,3,4,5,6,23,24,25,55] (.box [.ref 1,iA (J1 b 3 ((l9 b j).snd+1)).snd]::dY b::bt8::(a90 b j [.box (pL 3),.row 3 (D.ints (cvP (I9 (J1 b 3 ((l9 b j).snd+1)).fst))),.row 3 (D.ints (caP (I9 (J1 b 3 ((l9 b j).snd+1)).fst))),.row 76 (D.instrs (K8 (I9 (J1 b 3 ((l9 b j).snd+1)).fst)).fst),.box (pL 7)])) [(2,.ptr 2 0),(3,.ptr 6 0),(4,.ptr 10 0),(5,bA x)] fun G=>b6 (wp_seq ?_)));cases h1:(x)
  · refine l8 G (K6 (fc h1 fz) (us [(2,5,0),(1006,1006,0)])) [(27,bA false)] fun G=>b6 (rF G false aj (wp_skip (p8 (b6 (wp_seq (j9 G f8 (rg 6) (.box [.ref 1,iA (J1 b 3 ((l9 b j).snd+1)).snd]::dY b::.box (pL 3)::(a90 b j [])) [(2,.ptr 2 0)] fun G=>b6 (wp_ret ?_)))))));exact O8 G [0,1,3,4,5]
  refine G3 G (K6 (fc h1 fz) (us [(2,5,0),(1006,1006,0)])) [(2,.ptr 2 0),(3,.ptr 6 0),(4,.ptr 10 0),(27,bA (decide (((K8 (I9 (J1 b 3 ((l9 b j).snd+1)).fst)).fst.length:Int)<=60)))] fun G=>b6 ?_;cases h2:(decide (((K8 (I9 (J1 b (3:Nat) ((l9 b j).snd+1)).fst)).fst.length:Int)<=60))
  · have q2:=dFf h2;refine rF G _ h2 (wp_skip (p8 (b6 (wp_seq (j9 G f8 (rg 6) (.box [.ref 1,iA (J1 b 3 ((l9 b j).snd+1)).snd]::dY b::.box (pL 3)::(a90 b j [])) [(2,.ptr 2 0)] fun G=>b6 (wp_ret ?_))))));exact O8 G [0,1,3,4,5]
  have q2:=dTt h2;exact False.elim (hl ⟨ab,al⟩)
theorem bh3(b:List UInt8)(j:Int)(r0:0<=j)(r1:j<=1000000):j8.ok Tryz.prog ⟨27,[.ptr 0 0],[.box [.ref 1,iA j],dY b],[.box [.ref 1,iA (Y1 b j).2],dY b,rI (Y1 b j).1.vars,rI (Y1 b j).1.arrays,rN (Y1 b j).1.list],.agg [.ref 2,.ref 3,.ref 4]⟩:=by
 by_cases h0:pk b (l9 b j).2 3=0
 ·by_cases h2:okC (I9 (J1 b 3 ((l9 b j).2+1)).1)=true/\(K8 (I9 (J1 b 3 ((l9 b j).2+1)).1)).1.length<=60
  ·have e:Y1 b j=(⟨cvP (I9 (J1 b 3 ((l9 b j).2+1)).1),caP (I9 (J1 b 3 ((l9 b j).2+1)).1),(K8 (I9 (J1 b 3 ((l9 b j).2+1)).1)).1⟩,(J1 b 3 ((l9 b j).2+1)).2):=by unfold Y1;rw[if_pos h0,if_pos h2]
   rw[e];exact b78 b j h0 h2.1 h2.2 r0 r1
  have e:Y1 b j=((l9 b j).1,(J1 b 3 ((l9 b j).2+1)).2):=by unfold Y1;rw[if_pos h0,if_neg h2]
  rw[e];exact b79 b j _ h0 rfl h2 r0 r1
 by_cases h1:pk b (l9 b j).2 3=1
 ·have e:Y1 b j=(⟨(l9 b j).1.vars.map fun x=>l6 x 1,(l9 b j).1.arrays.map fun x=>l6 x 1,(l9 b j).1.list.map fnI⟩,(l9 b j).2+1):=by unfold Y1;rw[if_neg h0,if_pos h1]
  rw[e];exact ch2 b j h1 r0 r1
 have e:Y1 b j=((l9 b j).1,(l9 b j).2+1):=by unfold Y1;rw[if_neg h0,if_neg h1]
 rw[e];exact ch1 b j h0 h1 r0 r1
def dcX(b:List UInt8):c8:=(muD b (Y1 b 0).2 (Y1 b 0).1).1
theorem nc0(b:List UInt8):0<=(Y1 b 0).2/\(Y1 b 0).2<=1000000/\(Y1 b 0).1.list.length<=60/\(Y1 b 0).1.vars.length<=12/\(Y1 b 0).1.arrays.length<=2:=by
 have h:=ci8 b (j:=0) al al
 omega
theorem bB6(c:List UInt8)(hc:c.length<=2000):j8.ok Tryz.prog ⟨21,[.ref 0],[dY c],[dY c,rI (dcX c).vars,rI (dcX c).arrays,rN (dcX c).list],.agg [.ref 1,.ref 2,.ref 3]⟩:=by
 refine H9 10 Tryz.func21 [dY c] [(0,.ref 0)] fun G=>?_;have hjp:=nc0 c;refine wp_seq (j9 G f8 [0,1] [dY c,.box [.v (.slice none 0 0),.v (.slice none 0 0),.v (.slice none 0 0)]] [(0,.ref 0),(2,.ptr 1 0)] fun G=>b6 (wp_seq (j9 G (w6 1 [0] (bs0 c ai)) [0,1,10] [dY c,.box [.v (.slice none 0 0),.v (.slice none 0 0),.v (.slice none 0 0)],.box [.ref 0,iA 0]] [(2,.ptr 1 0),(3,.ptr 2 0)] fun G=>b6 (wp_seq (j9 G (I2 (v9 2 [2,0] (bh3 c 0 al al) (v9 3 [2,0,19,20,21] (j8.lend (aS8 c ((Y1 c 0).snd) ((Y1 c 0).fst.vars) ((Y1 c 0).fst.arrays) ((Y1 c 0).fst.list) al al al) [.no,.no,.row 3,.row 3,.row 76]) I1)) fz []) [0,1,27,28,29] [dY c,.box (pL 2),.row 3 (D.ints (muD c (Y1 c 0).snd (c8.mk (Y1 c 0).fst.vars (Y1 c 0).fst.arrays (Y1 c 0).fst.list)).fst.vars),.row 3 (D.ints (muD c (Y1 c 0).snd (c8.mk (Y1 c 0).fst.vars (Y1 c 0).fst.arrays (Y1 c 0).fst.list)).fst.arrays),.row 76 (D.instrs (muD c (Y1 c 0).snd (c8.mk (Y1 c 0).fst.vars (Y1 c 0).fst.arrays (Y1 c 0).fst.list)).fst.list)] [(2,.ptr 1 0)] fun G=>b6 (wp_ret ?_))))));exact O8 G [0,2,3,4]
abbrev bH4(c:List UInt8):=muD (List.drop 0 (cw1 2000 c)) (Y1 (List.drop 0 (cw1 2000 c)) 0).snd (c8.mk (Y1 (List.drop 0 (cw1 2000 c)) 0).fst.vars (Y1 (List.drop 0 (cw1 2000 c)) 0).fst.arrays (Y1 (List.drop 0 (cw1 2000 c)) 0).fst.list)
theorem bB5(c:List UInt8)(hc:2000<c.length):j8.ok Tryz.prog ⟨21,[.ref 0],[dY c],[dY c,rI (dcX ((c.take 2000).drop 0)).vars,rI (dcX ((c.take 2000).drop 0)).arrays,rN (dcX ((c.take 2000).drop 0)).list],.agg [.ref 1,.ref 2,.ref 3]⟩:=by
 refine H9 10 Tryz.func21 [dY c] [(0,.ref 0)] fun G=>?_;have hjp:=nc0 ((c.take 2000).drop 0);refine wp_seq (j9 G f8 [0,1] [dY c,.box [.v (.slice none 0 0),.v (.slice none 0 0),.v (.slice none 0 0)]] [(0,.ref 0),(2,.ptr 1 0)] fun G=>b6 (wp_seq (j9 G (w6 1 [0] (br9 c ai)) [0,1,10,11] [dY c,.box [.v (.slice none 0 0),.v (.slice none 0 0),.v (.slice none 0 0)],.box [.ref 3,iA 0],dY (List.drop 0 (cw1 2000 c))] [(2,.ptr 1 0),(3,.ptr 2 0)] fun G=>b6 (wp_seq (j9 G (I2 (v9 2 [2,3] (bh3 (List.drop 0 (cw1 2000 c)) 0 al al) (v9 3 [2,3,20,21,22] (j8.lend (aS8 (List.drop 0 (cw1 2000 c)) ((Y1 (List.drop 0 (cw1 2000 c)) 0).snd) ((Y1 (List.drop 0 (cw1 2000 c)) 0).fst.vars) ((Y1 (List.drop 0 (cw1 2000 c)) 0).fst.arrays) ((Y1 (List.drop 0 (cw1 2000 c)) 0).fst.list) al al al) [.no,.no,.row 3,.row 3,.row 76]) I1)) fz []) [0,1,28,29,30] [dY c,.box (pL 2),.row 3 (D.ints (bH4 c).fst.vars),.row 3 (D.ints (bH4 c).fst.arrays),.row 76 (D.instrs (bH4 c).fst.list)] [(2,.ptr 1 0)] fun G=>b6 (wp_ret ?_))))));exact O8 G [0,2,3,4]
theorem bU2(c:List UInt8):j8.ok Tryz.prog ⟨21,[.ref 0],[dY c],[dY c,rI (y7 c).vars,rI (y7 c).arrays,rN (y7 c).list],.agg [.ref 1,.ref 2,.ref 3]⟩:=by
 by_cases h:c.length<=2000
 ·have e:y7 c=dcX c:=by unfold y7 dcX bsD;rw[cw7 h]
  rw[e];exact bB6 c h
 exact bB5 c al
theorem bw0{P:Program}{f:FuncId}{args:List AV}{S:List It}{x y:Value}(h:∀(φ:Nat->Prop) (w:World) (ρ:Nat->Value),(∀i d,t6 S i=.dat d->RD w φ d (ρ i))->Calls P f (AV.vals ρ args).toArray w fun e w'=>e=.returned (.tuple #[x,y])/\Below w.heap.size w w'):j8.ok P (Y3 f args S (.tup [.v x,.v y])):=by
 intro ι φ ψ w0 w F ρ M
 refine(h (FrF φ (r7 F ρ (t6 S))) w ρ fun i d hi=>M.datAt hi).mono ?_
 rintro e w' ⟨rfl,hb⟩
 exact⟨ρ,fun _ _=>rfl,rfl,M.call hb⟩
theorem az2(v ar:List Int)(l:List d8):j8.ok Tryz.prog (Y3 8 [.agg [.ref 0,.ref 1,.ref 2]] [.dat (.ints v),.dat (.ints ar),.dat (.instrs l)] (.tup [iA (N9 ⟨v,ar,l⟩).1,iA (N9 ⟨v,ar,l⟩).2])):=
 bw0 fun φ w ρ h=>aQ7 _ ⟨v,ar,l⟩ w ⟨ρ 0,ρ 1,ρ 2,rfl,A3.row (h 0 _ rfl),A3.row (h 1 _ rfl),A3.row (h 2 _ rfl)⟩
theorem bi3(v ar:List Int)(l:List d8):j8.ok Tryz.prog (Y3 9 [.agg [.ref 0,.ref 1,.ref 2]] [.dat (.ints v),.dat (.ints ar),.dat (.instrs l)] (.tup [iA (N9 ⟨v,ar,l⟩).1,iA (N9 ⟨v,ar,l⟩).2])):=
 bw0 fun φ w ρ h=>aN0 _ ⟨v,ar,l⟩ w ⟨ρ 0,ρ 1,ρ 2,rfl,A3.row (h 0 _ rfl),A3.row (h 1 _ rfl),A3.row (h 2 _ rfl)⟩
theorem cd1{c:c8}(h:j7 c=false):N9 c=(5,-1):=by unfold N9;rw[h];rfl
theorem bT1{c:c8}(h:j7 c=true):∃m,K2 c m/\N9 c=H3 c m:=by
 obtain⟨m,hm⟩:=bO6 h
 refine⟨m,hm,?_⟩
 unfold N9
 rw[if_pos h, <-aP5 hm]
theorem bm2{w:World}{φ:Nat->Prop}{v:Value}{l:List d8}(h:w.ownsRow 0 76 5 v l.length (ints (C5 l))):(Rs.row 76 (D.instrs l).sz v (D.instrs l).len fun xs w φ=>RW w φ (.instrs l) xs).holds w φ:=by
 refine⟨fun xs=>RW.nice (.instrs l) xs,ints (C5 l),h,fun i hi j x hx=>?_⟩
 have hi':i<l.length:=hi
 obtain⟨y,rfl,hy⟩:=bR2 l hi' hx
 exact⟨y,hy,rfl⟩
theorem b11{f:FuncId}{c d:c8}{b:Bool}(h:∀(v:Value) (w:World),t5 w v c->Calls Tryz.prog f #[v] w fun e w'=>∃u,e=.returned (.tuple #[u,.bool b])/\C6 w' w.heap.size w'.heap.size u d/\Below w.heap.size w w'):j8.ok Tryz.prog ⟨f,[.agg [.ref 0,.ref 1,.ref 2]],[.dat (.ints c.vars),.dat (.ints c.arrays),.dat (.instrs c.list)],[.dat (.ints c.vars),.dat (.ints c.arrays),.dat (.instrs c.list),.row 3 (.ints d.vars),.row 3 (.ints d.arrays),.row 76 (.instrs d.list)],.tup [.agg [.ref 3,.ref 4,.ref 5],.v (.bool b)]⟩:=by
 intro ι φ ψ w0 w F ρ M
 have r0:=M.datAt (id:=0) (d:=.ints c.vars) rfl
 have r1:=M.datAt (id:=1) (d:=.ints c.arrays) rfl
 have r2:=M.datAt (id:=2) (d:=.instrs c.list) rfl
 refine(h (.agg #[ρ 0,ρ 1,ρ 2]) w ⟨_,_,_,rfl,A3.row r0,A3.row r1,A3.row r2⟩).mono ?_
 rintro e w' ⟨u,rfl,⟨v1,v2,v3,rfl,⟨o1,g1⟩,⟨o2,g2⟩,⟨o3,g3⟩,d12,d13,d23⟩,hbl⟩
 refine⟨fun i=>if i=3 then v1 else if i=4 then v2 else if i=5 then v3 else ρ i,fun i hi=>?_,by simp[AV.val,AV.vals],?_⟩
 ·have hi':i<3:=hi
  simp only[if_neg (show ¬i=3 by omega),if_neg (show ¬i=4 by omega),if_neg (show ¬i=5 by omega)]
 refine M.grow hbl (fun k=>k=.inr 3\/k=.inr 4\/k=.inr 5) (fun k hk=>?_) ?_ ?_ ?_
 ·cases k with
  |inl i=>rfl
  |inr j=>
   match j,hk with
   |0,_=>rfl
   |1,_=>rfl
   |2,_=>rfl
   |3,h=>exact absurd (.inl rfl) h
   |4,h=>exact absurd (.inr (.inl rfl)) h
   |5,h=>exact absurd (.inr (.inr rfl)) h
   |j+6,_=>rfl
 ·rintro k (rfl|rfl|rfl) b hb
  ·exact(World.ownsRow.lt o1 b hb).1
  ·exact(World.ownsRow.lt o2 b hb).1
  exact(World.ownsRow.lt o3 b hb).1
 ·rintro j k b hjk (rfl|rfl|rfl) (rfl|rfl|rfl) h1 h2
  ·exact absurd rfl hjk
  ·exact d12 b h1 h2
  ·exact d13 b h1 h2
  ·exact d12 b h2 h1
  ·exact absurd rfl hjk
  ·exact d23 b h1 h2
  ·exact d13 b h2 h1
  ·exact d23 b h2 h1
  exact absurd rfl hjk
 rintro k (rfl|rfl|rfl)
 ·exact aX9 (G4 o1 (cy4 _))
 ·exact aX9 (G4 o2 (cy4 _))
 exact bm2 (G4 o3 (cy4 _))
theorem bD2(w:World)(he:b31 (fun _=>True) w:=by intro _ _;trivial):l5 (fun _=>True) (fun _=>True) w w (r7 (fun _:Empty=>Rs.none) (fun _=>undef) (t6 [])):=by
 refine(l5.start (ι:=Empty ⊕ Nat) (w0:=w) (φ:=fun _=>True) (ψ:=fun _=>True) (fun _ _=>trivial) he).map (fun k=>some k) (fun k k' i a b=>by cases a;cases b;rfl) fun k=>?_
 cases k with
 |inl e=>exact e.elim
 |inr j=>exact .inr rfl
theorem bG8(w:World):Agr (fun _=>True) (FrF (fun _=>True) (r7 (fun _:Empty=>Rs.none) (fun _=>undef) (t6 []))) w w:=Agr.mono fun b _ _=>⟨cx2,fun i=>by
 cases i with
 |inl e=>exact e.elim
 |inr j=>exact fun h=>h.elim⟩
abbrev u8s(c:List UInt8):List Value:=c.map fun b=>Value.int .u8 (b.toNat:Int)
theorem bG1{P:Program}{f:FuncId}{x:Value}{c:List UInt8}{post:List It}(hc:j8.ok P ⟨f,[.ref 0],[dY c],post,.v x⟩)(u:Value)(w:World)(hp:A3 w (fun _=>True) u c.length 1 (u8s c))(he:b31 (fun _=>True) w:=by intro _ _;trivial):
  Calls P f #[u] w fun e w'=>e=.returned x/\Below w.heap.size w w':=by
 obtain⟨ρ',g1,M2,g2⟩:=l5.dats [.sl (.bytes c)] [u] 0 (bD2 w he) ⟨RD.nice (.bytes c) _ _ _ _ _ (bG8 w) hp,cx2⟩ (fun _ _=>rfl) (fun _ _ _=>rfl)
 have e:p7 (t6 []) (Z0 [.sl (.bytes c)] 0)=t6 [dY c]:=by
  funext j
  match j with
  |0=>rfl
  |j+1=>simp[Z0,p7,t6]
 rw[e]at M2
 simp only[xav,AV.vals,AV.val,List.cons.injEq,and_true]at g2
 subst g2
 refine(hc Empty _ _ w w _ ρ' M2).mono ?_
 rintro e w' ⟨ρ2,-,rfl,M3⟩
 exact⟨rfl,M3.below fun _ _=>trivial⟩
end Go.Proofs.YtfbeblgnjeokaaaGreat
